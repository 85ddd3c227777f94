/- castingsref05.List -/
import Derived.Test.YtbhbfpjnenekpaaGreatDoorJS56
import Derived.Test.YtbhbfpjnenekpaaGreatDoorJS12
namespace Go.Abs
set_option linter.unusedSimpArgs false
set_option linter.unusedVariables false
open Go Go.Proofs
set_option maxRecDepth 100000
set_option maxHeartbeats 1000000
abbrev tyS (t:Ty):List SV:=[.d (.str t.name),.d (.slice (tyR t.args)),.d (.int .i64 t.pos)]
abbrev deS (d:Decl):List SV:=[.d (.int .i64 d.kind),.d (.str d.name),.d (.slice (foR d.formals)),.d (.slice (paR d.fields)),.d (.slice (siR d.sigs)),.d (.str d.recv),.d (.slice (strR d.vars)),.d (.str d.sig.name),.d (.slice (foR d.sig.formals)),.d (.slice (paR d.sig.params)),.d (.str d.sig.result.name),.d (.slice (tyR d.sig.result.args)),.d (.int .i64 d.sig.result.pos),.d (.int .i64 d.sig.pos),.d (.int .i64 d.body.kind),.d (.str d.body.name),.d (.str d.body.type.name),.d (.slice (tyR d.body.type.args)),.d (.int .i64 d.body.type.pos),.d (.slice (tyR d.body.targs)),.d (.slice (exR d.body.kids)),.d (.int .i64 d.body.pos),.d (.int .i64 d.pos)]
mutual
def listE:Ex→List Ex
 | .mk k n t a ks q=>.mk k n t a ks q::listEL ks
def listEL:List Ex→List Ex
 | []=>[]
 | e::es=>listE e++listEL es
end
theorem listE_eq (e:Ex):listE e=e::listEL e.kids:=by cases e;rw [listE];rfl
theorem listEL_append:∀ a b:List Ex,listEL (a++b)=listEL a++listEL b
 | [],_=>rfl
 | x::a,b=>by simp only [List.cons_append,listEL,listEL_append a b,List.append_assoc]
theorem listEL_mem:∀ {l:List Ex} {x:Ex},x∈l→(listE x).length≤(listEL l).length
 | [],_,h=>by simp at h
 | y::l,x,h=>by
  rw [listEL,List.length_append]
  rcases List.mem_cons.1 h with rfl | h
  ·omega
  ·have:=listEL_mem h;omega
theorem listEL_len:∀ l:List Ex,l.length≤(listEL l).length
 | []=>Nat.le_refl _
 | y::l=>by
  have:=listEL_len l
  rw [listEL,List.length_append,listE_eq]
  simp only [List.length_cons];omega
theorem listEL_take (l:List Ex)(j:Nat):(listEL (l.take j)).length≤(listEL l).length:=by
 conv=>rhs;rw [← List.take_append_drop j l,listEL_append,List.length_append]
 omega
abbrev q1bx:List Nat:=[0,1,2,3,4,6,11]
theorem ok_RList:∀ e:Ex,(listE e).length≤sm→CallOK Tryz.prog 153 [exV e] (.d (.slice (exR (listE e)))):=by
 intro e
 induction e using Ex.induct with
 | h e ih =>
 intro hl
 rw [listE_eq] at hl ⊢
 simp only [List.length_cons] at hl
 have hkl:=listEL_len e.kids
 refine cB Tryz.func153 ?_
 refine sR q1bx ?_
 (refine AWp.seqR q1bx [6] (by decide +kernel) fun K z=>?_;refine ev ?_;apply z;clear z K)
 refine kR q1bx fun K1 u1=>?_
 refine AWp.block (AWp.forIdx e.kids (X:=Unit) (fun j _=>[(1,.box 1 0),(3,.acc 6),(4,intV j)]) (fun j _=>[(1,.cells (exS e)),(6,.rows 8 (exR (e::listEL (e.kids.take j))))])
  (fun j _=>True) () trivial sS (by simp [ble,bget,listEL,exR_map,exC]) ?_ ?_)
 rotate_left
 ·intro j _ u hu hmem dp tk hlt _
  have hul:=listEL_mem hmem
  have hi:=ih u hmem (by omega)
  have htl:=listEL_take e.kids j
  have htl2:=listEL_take e.kids (j+1)
  rw [tk,listEL_append] at htl2
  simp only [listEL,List.append_nil,List.length_append] at htl2
  rw [tk,listEL_append]
  simp only [listEL,List.append_nil]
  generalize listEL (e.kids.take j)=A at *
  generalize listE u=B at *
  refine kR1 hlt q1bx fun K2 u2=>?_
  refine gI u2 ?_
  clear u2 K2
  refine sK fun K2 u2=>?_
  refine AWp.block ?_
  (refine lV q1bx fun K z=>?_;refine ci (exR_get hu) ?_;refine cc hi ?_;refine⟨exR_row _,by unfold lim sm at *;omega,?_⟩;(try refine ev ?_);apply z;clear z K;try simp only [thenA,blockA,if_true])
  refine u2 _ _ ?_
  clear u2 K2
  (refine lV q1bx fun K z=>?_;refine cl ?_;apply z;clear z K;try simp only [thenA,blockA,if_true])
  exact⟨(),trivial,sS,by simp [ble,bget,exR_map,exC]⟩
 intro _ _
 rw [List.take_length]
 refine kR1 Int.lt_irrefl q1bx fun K2 u2=>?_
 refine AWp.stopK rfl ?_
 simp only [thenA,blockA,if_true]
 refine u1 _ _ ?_
 refine sR q1bx ?_
 exact aR
structure CallT where
 on:Ty
 name:Str
 targs:List Ty
structure SetT where
 types:List Ty
 calls:List CallT
 large:Bool
def caC (c:CallT):List D:=[.str c.on.name,.slice (tyR c.on.args),.int .i64 c.on.pos,.str c.name,.slice (tyR c.targs)]
def caR (l:List CallT):List (List D):=l.map caC
abbrev caS (c:CallT):List SV:=[.d (.str c.on.name),.d (.slice (tyR c.on.args)),.d (.int .i64 c.on.pos),.d (.str c.name),.d (.slice (tyR c.targs))]
abbrev caV (c:CallT):SV:=.agg (caS c)
theorem caR_len (l:List CallT):(caR l).length=l.length:=by simp [caR]
theorem caR_get {l:List CallT} {i:Nat} {c:CallT} (h:l[i]? = some c):(caR l)[i]? = some (caC c):=by simp [caR,h]
structure CallT.Sm (c:CallT):Prop where
 on:c.on.Sm
 name:c.name.length≤sm
 targs:c.targs.length≤sm∧∀ t,t∈c.targs→t.Sm
structure SetT.Sm (s:SetT):Prop where
 types:s.types.length≤sm∧∀ t,t∈s.types→t.Sm
 calls:s.calls.length≤sm∧∀ t,t∈s.calls→t.Sm
end Go.Abs
