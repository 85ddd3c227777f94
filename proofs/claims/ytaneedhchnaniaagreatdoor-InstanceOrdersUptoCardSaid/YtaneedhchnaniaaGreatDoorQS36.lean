/- expr.All, visit: the nodes of an expression in order, for a range over a function; expr.Value; step.first -/
import Derived.Test.YtaneedhchnaniaaGreatDoorQSB
import Derived.Test.YtaneedhchnaniaaGreatDoorQAb7
import Derived.Test.YtaneedhchnaniaaGreatDoorQS18
namespace Go.Abs
set_option linter.unusedSimpArgs false
set_option linter.unusedVariables false
open Go Go.Proofs Tryz
set_option maxRecDepth 100000
set_option maxHeartbeats 1000000
structure Fits (Y:Yld)(j:Nat)(l:List Ex):Prop where
 P:Y.P=prog
 N:j+l.length≤Y.N
 at_:∀ i e,l[i]? = some e→Y.xs (j+i)=exV e∧Y.go (j+i)=decide (e.kind=3)
theorem Fits.left {Y:Yld} {j:Nat} {l m:List Ex} (h:Fits Y j (l++m)):Fits Y j l where
 P:=h.P
 N:=by have:=h.N;rw [List.length_append] at this;omega
 at_:=fun i e he=>h.at_ i e (by rw [List.getElem?_append_left (List.getElem?_eq_some_iff.1 he).1];exact he)
theorem Fits.right {Y:Yld} {j:Nat} {l m:List Ex} (h:Fits Y j (l++m)):Fits Y (j+l.length) m where
 P:=h.P
 N:=by have:=h.N;rw [List.length_append] at this;omega
 at_:=fun i e he=>by
  have:=h.at_ (l.length+i) e (by rw [List.getElem?_append_right (by omega)];simpa using he)
  rw [Nat.add_assoc];exact this
theorem tySm_subst {vars:List Str} {args:List Ty} (ha:∀ u,u∈args→u.Sm):∀ t:Ty,t.Sm→(t.subst vars args).Sm:=by
 intro t
 induction t using Ty.induct with
 | h t ih =>
 intro h
 rw [subst_eq]
 split
 ·rename_i hc
  have hlt:(indexS t.name vars 0).toNat < args.length:=by omega
  rw [List.getElem?_eq_getElem hlt,Option.getD_some]
  have:=ha _ (List.getElem_mem hlt)
  exact .mk _ _ _ this.name this.len this.arg
 ·refine .mk _ _ _ h.name (by rw [List.length_map];exact h.len) fun u hu=>?_
  obtain⟨x,hx,rfl⟩:=List.mem_map.1 hu
  exact ih x hx (h.arg x hx)
theorem Ex.Sm.subst {vars:List Str} {args:List Ty} (ha:∀ u,u∈args→u.Sm)(e:Ex):e.Sm→(e.subst vars args).Sm:=by
 induction e using Ex.induct with
 | h e ih =>
 intro h
 unfold Ex.subst
 rw [mapped_eq]
 refine .mk _ _ _ _ _ _ h.name (tySm_subst ha _ h.type) ?_ ?_ ?_ ?_
 ·show (e.targs.map (Ty.subst vars args)).length≤sm
  rw [List.length_map];exact h.targs.1
 ·intro t ht
  have ht:t∈e.targs.map (Ty.subst vars args):=ht
  obtain⟨u,hu,rfl⟩:=List.mem_map.1 ht
  exact tySm_subst ha _ (h.targs.2 u hu)
 ·show (e.kids.map _).length≤sm
  rw [List.length_map];exact h.kids.1
 ·intro k hk
  have hk:k∈e.kids.map (Ex.mapped (Ex.sub1 vars args)):=hk
  obtain⟨u,hu,rfl⟩:=List.mem_map.1 hk
  exact ih u hu (h.kids.2 u hu)
def replG (vars:List Str)(vals:List Ex)(e:Ex):Ex:=if e.kind=1∧0≤indexS e.name vars 0∧indexS e.name vars 0 < vals.length then (vals[(indexS e.name vars 0).toNat]?).getD e else e
def Ex.repl (vars:List Str)(vals:List Ex):Ex→Ex:=Ex.mapped (replG vars vals)
def fieldsD (d:Decl)(x:Ty):List Param:=d.fields.map (Param.subst (fnames d.formals) x.args)
def fieldsT (p:Prog)(x:Ty):List Param:=if instB p x 1=true then fieldsD ((declT p x.name).getD default) x else []
abbrev q1U:List Nat:=[0,1,3,4,5,6,7,8,10,18,20,21,22,23]
theorem ok_TFields (p:Prog)(h:p.Sm)(x:Ty)(hx:x.Sm):CallOK prog 116 [.dptr (tabC p) 0,tyV x] (.tuple [.d (.slice (paR (fieldsT p x))),boolV (instB p x 1)]):=by
 have hin:=ok_instance p h x 1 (by decide)
 unfold fieldsT
 rcases Bool.eq_false_or_eq_true (instB p x 1) with hi | hi
 ·obtain⟨dd,hdd,_⟩:=inst_decl (by decide) hi
  rw [hi,if_pos rfl]
  rw [hdd,Option.getD_some,hi] at hin
  rw [hdd,Option.getD_some]
  have hds:=h.decls.2 dd (declT_mem hdd)
  have hfl:=hds.fields.1
  have hn:=ok_Names dd.formals hds.formals.1
  unfold fieldsD
  refine cB func116 ?_
  refine sR q1U ?_
  refine sC hin q1U ?_
  refine kR q1U fun K1 u1=>?_
  refine kI u1 ?_
  clear u1 K1
  refine sR q1U ?_
  refine AWp.promote 8 5 8 rfl ?_
  refine kR q1U fun K1 u1=>?_
  refine AWp.block (AWp.forIdx dd.fields (X:=Unit) (fun j _=>[(3,.box 3 0),(6,.box 6 0),(8,.acc 8),(20,.d (.slice (paR dd.fields))),(21,intV dd.fields.length),(22,intV j)])
   (fun j _=>[(3,.cells [.d (.str x.name),tysV x.args,intV x.pos]),(6,.cells ((deC dd).map .d)),(8,.rows 5 (paR ((dd.fields.take j).map (Param.subst (fnames dd.formals) x.args))))])
   (fun j _=>True) () trivial sS (by simp [ble,bget,paR,deC]) ?_ ?_)
  ·intro _ _
   rw [List.take_length]
   refine sR1 Int.lt_irrefl q1U ?_
   refine AWp.stop rfl ?_
   simp only [thenA,blockA,if_true]
   refine u1 _ _ ?_
   refine sR q1U ?_
   exact aR
  ·intro j _ d hd hmem dp tk hlt _
   rw [tk]
   have hsub:=ok_Subst (fnames dd.formals) x.args hx.arg d.type (hds.fields.2 d hmem).type
   refine sR1 hlt q1U ?_
   refine AWp.goOn rfl ?_
   refine sK fun K2 u2=>?_
   refine AWp.block ?_
   (refine sV q1U fun K z=>?_;refine ci (paR_get hd) ?_;apply z;clear z K)
   (refine lG q1U [] 15 [] fun K z=>?_;refine ev ?_;refine cc hn ?_;refine cc hsub ?_;refine⟨by simp,by simp only [List.length_map,List.length_take];unfold lim sm at *;omega,?_⟩;(try refine ev ?_);apply z;clear z K;try simp only [thenA,blockA])
   refine u2 _ _ ?_
   clear u2 K2
   refine lT q1U ?_
   exact⟨(),trivial,sS,by simp [ble,bget,paR,deC,paC,Param.subst]⟩
 ·rw [hi] at hin ⊢
  rw [if_neg (by decide)]
  generalize (declT p x.name).getD default=dd at *
  refine cB func116 ?_
  refine sR q1U ?_
  refine sC hin q1U ?_
  refine kR q1U fun K1 u1=>?_
  refine tI ?_
  refine sR q1U ?_
  exact aR
def methD (p:Prog)(x:Ty)(m:Str):Option Decl:=if instB p x 1=true then (match p.decls.find? (keyM x.name m) with
 | some d=>if d.vars.length=x.args.length then some d else none
 | none=>none) else none
def ex0:Ex:=.mk 0 [] (.mk [] [] 0) [] [] 0
end Go.Abs
