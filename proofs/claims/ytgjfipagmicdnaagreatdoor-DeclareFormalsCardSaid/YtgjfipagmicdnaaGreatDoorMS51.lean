/- castingsref06.RightDecl, Right -/
import Derived.Test.YtgjfipagmicdnaaGreatDoorMS49
import Derived.Test.YtgjfipagmicdnaaGreatDoorMS36
import Derived.Test.YtgjfipagmicdnaaGreatDoorMS25
namespace Go.Abs
set_option linter.unusedSimpArgs false
set_option linter.unusedVariables false
open Go Go.Proofs Tryz
set_option maxRecDepth 100000
set_option maxHeartbeats 1000000
def Decl.noneB (d:Decl):Bool:=decide (d.recv=[]) && (decide (d.vars.length=0) && (sameSi d.sig sig0 && sameE d.body ex0))
def Decl.right3 (d:Decl):Bool:=if d.kind=3 then isName d.recv && (decide ((d.formals.length:Int)+(d.fields.length:Int)+(d.sigs.length:Int)=0) && (d.sig.right && d.body.right))
 else d.noneB && ((decide (d.kind=1) && decide (d.sigs.length=0)) || (decide (d.kind=2) && decide (d.fields.length=0)))
def Decl.right (d:Decl):Bool:=isName d.name && (foRight d.formals && (paRight d.fields && (d.sigs.all Sig.right && (d.vars.all isName && d.right3))))
def Prog.right (p:Prog):Bool:=p.decls.all Decl.right && p.main.right
structure Res where
 pos:Int
 bad:Bool
 large:Bool
def res0:Res:=⟨0,false,false⟩
def badR (n:Int):Res:=⟨n,true,false⟩
def resO:Option Int→Res
 | none=>res0
 | some q=>badR q
abbrev rsV (r:Res):SV:=.agg [.d (.int .i64 r.pos),.d (.bool r.bad),.d (.bool r.large)]
abbrev rs0:BoxC:=.cells [.d (.int .i64 0),.d (.bool false),.d (.bool false)]
theorem ok_join (a b:List Formal)(ha:a.length≤sm)(hb:b.length≤sm):CallOK prog 50 [.d (.slice (foR a)),.d (.slice (foR b))] (.d (.slice (foR (a++b)))):=by
 rw [show foR (a++b)=foR a++foR b by simp [foR]]
 refine cB func50 ?_
 refine sR [0,1,4] ?_
 (refine AWp.seqR [0,1,4,5] [5] (by decide +kernel) fun K z=>?_;refine ev ?_;refine⟨foR_row _,by unfold lim sm at *;omega,?_⟩;(try refine ev ?_);refine⟨foR_row _,by unfold lim sm at *;omega,?_⟩;(try refine ev ?_);apply z;clear z K)
 exact aR
def freshR (p:Prog)(pre:List Formal):List Formal→Option Int
 | []=>none
 | f::fs=>if kindOf p f.name≠0∨f.name∈fnames pre then some f.pos else freshR p (pre++[f]) fs
def boundR (p:Prog)(all:List Formal):List Formal→Option Int
 | []=>none
 | f::fs=>match chk p all f.bound with
  | some q=>some q
  | none=>if isIface p all f.bound=true then boundR p all fs else some f.bound.pos
def formalsR (p:Prog)(env l:List Formal):Option Int:=match freshR p env l with
 | some q=>some q
 | none=>boundR p (env++l) l
abbrev q1Z:List Nat:=[0,1,2,3,6,7,8,9,10,11,12,16,41,54,68,79]
theorem ok_Formals15 (p:Prog)(h:p.Sm)(env l:List Formal)(hll:env.length+l.length≤sm)(he:∀ f,f∈env→f.Sm)(hl:∀ f,f∈l→f.Sm) :
  CallOK prog 19 [prV p,.d (.slice (foR env)),.d (.slice (foR l))] (rsV (resO (formalsR p env l))):=by
 have hall:∀ f,f∈env++l→f.Sm:=fun f hf=>by
  rcases List.mem_append.1 hf with h | h
  ·exact he f h
  ·exact hl f h
 have hjn:=ok_join env l (by omega) (by omega)
 unfold formalsR
 refine cB func19 ?_
 refine sR q1Z ?_
 (refine AWp.freeze 3 rfl rfl (wk [(1,.d (.slice (foR env))),(2,.d (.slice (foR l))),(3,.dptr (prC p) 0),(6,.box 6 0)] [(6,rs0)] ?_))
 refine kR q1Z fun K1 u1=>?_
 refine AWp.block (AWp.forIdx l (X:=Unit) (fun j _=>[(1,.d (.slice (foR env))),(2,.d (.slice (foR l))),(3,.dptr (prC p) 0),(6,.box 6 0),(7,intV j)]) (fun _ _=>[(6,rs0)])
  (fun j _=>freshR p (env++l.take j) (l.drop j)=freshR p env l) () (by simp) (by simp [sle,vle,sget,prC]) sB ?_ ?_)
 rotate_left
 ·intro j _ d hd hmem dp tk hlt hI
  rw [dp,freshR] at hI
  have hj:CallOK prog 50 [.d (.slice (foR env)),.d (.slice ((foR l).take j))] (.d (.slice (foR (env++l.take j)))):=by
   rw [show (foR l).take j=foR (l.take j) by simp [foR,List.map_take]]
   exact ok_join env (l.take j) (by omega) (by rw [List.length_take];omega)
  have hnm:=ok_RefNames (env++l.take j) (by rw [List.length_append,List.length_take];omega)
  have hk:=ok_Kind p d.name
  have hin:=ok_In (fnames (env++l.take j)) d.name
  refine kR1 hlt q1Z fun K2 u2=>?_
  refine gI u2 ?_
  clear u2 K2
  refine sK fun K2 u2=>?_
  refine AWp.block ?_
  (refine sV q1Z fun K z=>?_;refine⟨foR_row _,by omega,by omega,?_⟩;(try refine ev ?_);refine cc hj ?_;refine cc hnm ?_;apply z;clear z K)
  by_cases hk0:kindOf p d.name=0
  rotate_left
  ·rw [if_pos (.inl hk0)] at hI
   rw [← hI]
   (refine sD q1Z [] 17 mixed fun K z=>?_;refine ev ?_;refine ci (foR_get hd) ?_;refine⟨_,.inl ⟨_,rfl,hk,rfl⟩,?_⟩;(try refine ev1 hk0 ?_);apply z;clear z K)
   refine AWp.condT rfl ?_
   (refine sV q1Z fun K z=>?_;refine ci (foR_get hd) ?_;apply z;clear z K)
   exact aR
  by_cases hm:d.name∈fnames (env++l.take j)
  ·rw [if_pos (.inr hm)] at hI
   rw [← hI]
   rw [decide_eq_true hm] at hin
   (refine sD q1Z [] 17 mixed fun K z=>?_;refine ev ?_;refine ci (foR_get hd) ?_;refine⟨_,.inl ⟨_,rfl,hk,rfl⟩,?_⟩;(try refine ev1 hk0 ?_);refine ci (foR_get hd) ?_;refine cc hin ?_;apply z;clear z K)
   refine AWp.condT rfl ?_
   (refine sV q1Z fun K z=>?_;refine ci (foR_get hd) ?_;apply z;clear z K)
   exact aR
  rw [if_neg (by rintro (h | h);exact h hk0;exact hm h)] at hI
  rw [decide_eq_false hm] at hin
  (refine sD q1Z [] 17 mixed fun K z=>?_;refine ev ?_;refine ci (foR_get hd) ?_;refine⟨_,.inl ⟨_,rfl,hk,rfl⟩,?_⟩;(try refine ev1 hk0 ?_);refine ci (foR_get hd) ?_;refine cc hin ?_;apply z;clear z K)
  refine AWp.condF rfl (AWp.skip (u2 _ _ ?_))
  clear u2 K2
  refine lT q1Z ?_
  exact⟨(),by rw [tk,← List.append_assoc];exact hI,(by simp [sle,vle,sget,prC]),sB⟩
 intro _ hI
 rw [List.drop_length,freshR] at hI
 rw [← hI] at u1 ⊢
 simp only
 clear hI
 refine kR1 Int.lt_irrefl q1Z fun K2 u2=>?_
 refine AWp.stopK rfl ?_
 simp only [thenA,blockA,if_true]
 refine u1 _ _ ?_
 clear u2 K2 u1 K1
 refine sC hjn q1Z ?_
 refine kR q1Z fun K1 u1=>?_
 refine AWp.block (AWp.forIdx l (X:=Unit) (fun j _=>[(2,.d (.slice (foR l))),(3,.dptr (prC p) 0),(6,.box 6 0),(9,.d (.slice (foR (env++l)))),(10,intV j)]) (fun _ _=>[(6,rs0)])
  (fun j _=>boundR p (env++l) (l.drop j)=boundR p (env++l) l) () rfl (by simp [sle,vle,sget,prC]) sB ?_ ?_)
 rotate_left
 ·intro j _ d hd hmem dp tk hlt hI
  rw [dp,boundR] at hI
  have hc:=ok_RCheck p h (env++l) (by rw [List.length_append];omega) hall d.bound (hl d hmem).bound
  have hif:=ok_RIsInterface p (env++l) (by rw [List.length_append];omega) d.bound
  refine kR1 hlt q1Z fun K2 u2=>?_
  refine gI u2 ?_
  clear u2 K2
  refine sK fun K2 u2=>?_
  refine AWp.block ?_
  cases hq:chk p (env++l) d.bound with
  | some q =>
   rw [hq] at hI hc
   rw [← hI]
   (refine sD q1Z [] 13 mixed fun K z=>?_;refine ev ?_;refine ci (foR_get hd) ?_;refine cc hc ?_;apply z;clear z K)
   refine kR q1Z fun K3 u3=>?_
   refine tI ?_
   refine sR q1Z ?_
   exact aR
  | none =>
   rw [hq] at hI hc
   simp only at hI
   (refine sD q1Z [] 13 mixed fun K z=>?_;refine ev ?_;refine ci (foR_get hd) ?_;refine cc hc ?_;apply z;clear z K)
   refine kR q1Z fun K3 u3=>?_
   refine kI u3 ?_
   clear u3 K3
   rcases Bool.eq_false_or_eq_true (isIface p (env++l) d.bound) with hb | hb
   ·rw [if_pos hb] at hI
    rw [hb] at hif
    (refine sD q1Z [] 9 mixed fun K z=>?_;refine ev ?_;refine ci (foR_get hd) ?_;refine cc hif ?_;apply z;clear z K)
    refine AWp.condF rfl (AWp.skip (u2 _ _ ?_))
    clear u2 K2
    refine lT q1Z ?_
    exact⟨(),hI,(by simp [sle,vle,sget,prC]),sB⟩
   ·rw [if_neg (by simp [hb])] at hI
    rw [← hI]
    rw [hb] at hif
    (refine sD q1Z [] 9 mixed fun K z=>?_;refine ev ?_;refine ci (foR_get hd) ?_;refine cc hif ?_;apply z;clear z K)
    refine AWp.condT rfl ?_
    (refine sV q1Z fun K z=>?_;refine ci (foR_get hd) ?_;apply z;clear z K)
    exact aR
 intro _ hI
 rw [List.drop_length,boundR] at hI
 rw [← hI] at u1 ⊢
 clear hI
 refine kR1 Int.lt_irrefl q1Z fun K2 u2=>?_
 refine AWp.stopK rfl ?_
 simp only [thenA,blockA,if_true]
 refine u1 _ _ ?_
 refine sR q1Z ?_
 exact aR
def parR (p:Prog)(env:List Formal)(pre:List Str):List Param→Option Int
 | []=>none
 | f::fs=>if f.name∈pre then some f.pos else match chk p env f.type with
  | some q=>some q
  | none=>parR p env (pre++[f.name]) fs
def sigR (p:Prog)(env:List Formal)(s:Sig):Option Int:=match formalsR p env s.formals with
 | some q=>some q
 | none=>match parR p (env++s.formals) [] s.params with
  | some q=>some q
  | none=>chk p (env++s.formals) s.result
end Go.Abs
