/- castingsref16.no, found, isStruct, open, Fits, kids -/
import Derived.Test.YtlpkdlopdccmmaaGreatDoorYS54
import Derived.Test.YtlpkdlopdccmmaaGreatDoorYAb7
import Derived.Test.YtlpkdlopdccmmaaGreatDoorYS25
namespace Go.Abs
set_option linter.unusedSimpArgs false
set_option linter.unusedVariables false
open Go Go.Proofs Tryz
set_option maxRecDepth 100000
set_option maxHeartbeats 1000000
abbrev tcV (c:TCtx):SV:=.agg [.d (.slice (deR c.p.decls)),.d (.int .i64 c.p.main.kind),.d (.str c.p.main.name),.d (.str c.p.main.type.name),.d (.slice (tyR c.p.main.type.args)),.d (.int .i64 c.p.main.type.pos),.d (.slice (tyR c.p.main.targs)),.d (.slice (exR c.p.main.kids)),.d (.int .i64 c.p.main.pos),.d (.bool c.strict),.d (.slice (foR c.env)),.d (.slice (paR c.vars))]
def tcC (c:TCtx):List D:=[.slice (deR c.p.decls),.int .i64 c.p.main.kind,.str c.p.main.name,.str c.p.main.type.name,.slice (tyR c.p.main.type.args),.int .i64 c.p.main.type.pos,.slice (tyR c.p.main.targs),.slice (exR c.p.main.kids),.int .i64 c.p.main.pos,.bool c.strict,.slice (foR c.env),.slice (paR c.vars)]
abbrev trV (z:Ty × Res):SV:=.tuple [tyV z.1,rsV z.2]
abbrev ty0C:BoxC:=.cells [.d (.str []),.d .nil,.d (.int .i64 0)]
structure TCtx.Sm (c:TCtx):Prop where
 p:c.p.Sm
 el:c.env.length≤sm
 env:∀ f,f∈c.env→f.Sm
 vl:c.vars.length≤sm
 vars:∀ f,f∈c.vars→f.Sm
theorem fieldsT_Sm {p:Prog} (h:p.Sm) {x:Ty} (hx:x.Sm):∀ f,f∈fieldsT p x→f.Sm:=by
 intro f hf
 unfold fieldsT at hf
 split at hf
 ·rename_i hi
  obtain⟨d,hd,_⟩:=inst_decl (by decide) hi
  rw [hd,Option.getD_some] at hf
  unfold fieldsD at hf
  obtain⟨g,hg,rfl⟩:=List.mem_map.1 hf
  have:=(h.decls.2 d (declT_mem hd)).fields.2 g hg
  exact⟨this.name,this.type.subst hx.arg⟩
 ·simp at hf
theorem ty0_Sm:ty0.Sm:=.mk _ _ _ (by simp) (by simp) (by simp)
variable {c:TCtx}
theorem typeE_Sm (hc:c.Sm):∀ e:Ex,e.Sm→(typeE c e).1.Sm:=by
 intro e
 induction e using Ex.induct with | _ e ih=>?_
 intro he
 rw [typeE_eq]
 unfold typeN
 split
 ·unfold varTy
  split
  ·rename_i f hf
   split
   ·exact ty0_Sm
   ·exact (hc.vars f (List.mem_of_getElem? hf)).type
  ·exact ty0_Sm
 split
 ·unfold litT
  split
  ·exact ty0_Sm
  ·split
   ·exact ty0_Sm
   ·exact he.type
 split
 ·exact ty0_Sm
 split
 ·exact ty0_Sm
 ·rename_i z zs hz
  cases hks:e.kids with
  | nil=>rw [hks] at hz;simp at hz
  | cons v vs =>
   rw [hks] at hz
   simp only [List.map_cons,List.cons.injEq] at hz
   obtain⟨rfl,rfl⟩:=hz
   have hv:=ih v (by rw [hks];simp) (he.kids.2 v (by rw [hks];simp))
   split
   ·exact hv
   split
   ·unfold callT
    split
    ·exact ty0_Sm
    ·rename_i s hs
     unfold foundT
     split
     ·exact ty0_Sm
     ·have hsm:s∈setT c.p c.env (typeE c v).1:=by
       unfold sigT at hs
       split at hs
       ·cases hs
       ·rename_i s' hs'
        split at hs
        ·cases hs
        ·split at hs
         ·cases hs
         ·split at hs
          ·cases hs
          ·split at hs
           ·cases hs
           ·cases hs;exact List.mem_of_getElem? hs'
      exact (setT_Sm hc.p hc.env hv s hsm).result.subst he.targs.2
   split
   ·unfold fieldT
    split
    ·exact ty0_Sm
    ·split
     ·rename_i f hf
      split
      ·exact ty0_Sm
      ·unfold foundT
       split
       ·exact ty0_Sm
       ·exact (fieldsT_Sm hc.p hv f (List.mem_of_getElem? hf)).type
     ·exact ty0_Sm
   ·unfold assertT
    split
    ·exact ty0_Sm
    ·split
     ·exact ty0_Sm
     ·exact he.type
theorem ok_no16 (n:Int):CallOK prog 73 [intV n] (trV (noT n)):=by
 refine cB func73 ?_
 refine sR [0,2,3] ?_
 refine sR [0,2,3] ?_
 exact aR
abbrev q1ex:List Nat:=[0,1,2,3,4,5,13]
theorem ok_found16 (x:Ty)(r:Res):CallOK prog 79 [tyV x,rsV r] (trV (foundT (x,r))):=by
 have hc:=ok_Count04 x 0 (by decide) (by decide)
 obtain⟨q,b,l⟩:=r
 unfold foundT
 simp only
 refine cB func79 ?_
 refine sR q1ex ?_
 (refine AWp.freeze 2 rfl rfl ?_;refine AWp.freeze 3 rfl rfl (wk [(2,.dptr (tyC x) 0),(3,.dptr [.int .i64 q,.bool b,.bool l] 0),(4,.box 4 0),(5,.box 5 0)] [(4,ty0C),(5,rs0)] ?_))
 cases b with
 | true =>
  rw [if_neg (by simp)]
  refine kR q1ex fun K1 u1=>?_
  refine kI u1 ?_
  (refine sG q1ex [] 3 [⟨[],[],[],[]⟩,⟨[],[],[4],[]⟩,⟨[4],[],[],[]⟩] fun K z=>?_;refine ev ?_;apply z;clear z K)
  exact aR
 | false =>
  by_cases h:400 < x.count 0
  ·rw [if_pos ⟨rfl,h⟩]
   refine sK fun K1 u1=>?_
   (refine sV q1ex fun K z=>?_;refine⟨_,.inl ⟨_,rfl,hc,rfl⟩,?_⟩;(try simp -implicitDefEqProofs only [EV,Nat.reduceEqDiff,reduceCtorEq,h]);apply z;clear z K)
   refine tI ?_
   refine sR q1ex ?_
   exact aR
  ·rw [if_neg (fun hh=>h hh.2)]
   refine sK fun K1 u1=>?_
   (refine sV q1ex fun K z=>?_;refine⟨_,.inl ⟨_,rfl,hc,rfl⟩,?_⟩;(try simp -implicitDefEqProofs only [EV,Nat.reduceEqDiff,reduceCtorEq,h]);apply z;clear z K)
   refine kI u1 ?_
   (refine sG q1ex [] 3 [⟨[],[],[],[]⟩,⟨[],[],[4],[]⟩,⟨[4],[],[],[]⟩] fun K z=>?_;refine ev ?_;apply z;clear z K)
   exact aR
theorem ok_isStruct16 (c:TCtx)(hc:c.Sm)(x:Ty):CallOK prog 75 [tcV c,tyV x] (boolV (structT c x)):=by
 have h1:=ok_RefFind c.env x hc.el
 have h2:=ok_RefInstance c.p x 1
 unfold structT
 generalize findV c.env x=z at *
 generalize instB c.p x 1=b at *
 by_cases hz:z < 0
 ·rw [decide_eq_true hz,Bool.true_and]
  refine cB func75 ?_
  refine sR [0,1,2,3,4] ?_
  (refine sV [0,1,2,3,4] fun K z=>?_;refine⟨_,.inl ⟨_,rfl,h1,rfl⟩,?_⟩;(try refine ev1 hz ?_);refine cc h2 ?_;apply z;clear z K)
  exact aR
 ·rw [decide_eq_false hz,Bool.false_and]
  refine cB func75 ?_
  refine sR [0,1,2,3,4] ?_
  (refine sV [0,1,2,3,4] fun K z=>?_;refine⟨_,.inl ⟨_,rfl,h1,rfl⟩,?_⟩;(try refine ev1 hz ?_);apply z;clear z K)
  exact aR
theorem ok_open16 (c:TCtx)(hc:c.Sm)(x:Ty):CallOK prog 81 [tcV c,tyV x] (boolV (openT c x)):=by
 have h1:=ok_RefFind c.env x hc.el
 have h2:=ok_RefInstance c.p x 2
 unfold openT
 generalize findV c.env x=z at *
 generalize instB c.p x 2=b at *
 by_cases hz:0≤z
 ·rw [decide_eq_true hz,Bool.true_or]
  refine cB func81 ?_
  refine sR [0,1,2,3,4] ?_
  (refine sV [0,1,2,3,4] fun K z=>?_;refine⟨_,.inl ⟨_,rfl,h1,rfl⟩,?_⟩;(try refine ev1 hz ?_);apply z;clear z K)
  exact aR
 ·rw [decide_eq_false hz,Bool.false_or]
  refine cB func81 ?_
  refine sR [0,1,2,3,4] ?_
  (refine sV [0,1,2,3,4] fun K z=>?_;refine⟨_,.inl ⟨_,rfl,h1,rfl⟩,?_⟩;(try refine ev1 hz ?_);refine cc h2 ?_;apply z;clear z K)
  exact aR
abbrev q2ex:List Nat:=[0,1,2,3,4,5,6,7,8,27]
theorem ok_Fits16 (c:TCtx)(hc:c.Sm)(e:Ex)(hT:CallOK prog 32 [tcV c,exV e] (trV (typeE c e)))(hx:(typeE c e).1.Sm)(w:Ty)(hw:w.Sm):CallOK prog 71 [tcV c,exV e,tyV w] (rsV (fitsT c w e (typeE c e))):=by
 have hi:=ok_RImplements c.p hc.p c.env hc.el hc.env (typeE c e).1 w hx hw
 unfold fitsT
 generalize typeE c e=z at *
 obtain⟨x,⟨q,b,l⟩⟩:=z
 simp only at hi hx ⊢
 cases b with
 | true =>
  rw [if_neg (by simp)]
  refine cB func71 ?_
  refine sR q2ex ?_
  refine sC hT q2ex ?_
  refine kR q2ex fun K1 u1=>?_
  refine kI u1 ?_
  refine sR q2ex ?_
  exact aR
 | false =>
  generalize implB c.p c.env x w=b at *
  cases b with
  | true =>
   rw [if_neg (by simp)]
   refine cB func71 ?_
   refine sR q2ex ?_
   refine sC hT q2ex ?_
   refine kC hi q2ex fun K1 u1=>?_
   refine kI u1 ?_
   refine sR q2ex ?_
   exact aR
  | false =>
   rw [if_pos ⟨rfl,rfl⟩]
   refine cB func71 ?_
   refine sR q2ex ?_
   refine sC hT q2ex ?_
   refine kC hi q2ex fun K1 u1=>?_
   refine tI ?_
   refine sR q2ex ?_
   exact aR
abbrev q3ex:List Nat:=[0,1,2,3,4,5,10,11,12,16,34]
theorem ok_kids16 (c:TCtx)(l:List Ex)(hll:l.length≤sm)(params:List Param)(hpl:params.length=l.length)(hps:∀ f,f∈params→f.Sm)(names:List Str)(args:List Ty)(ha:∀ u,u∈args→u.Sm)
  (hF:∀ k,k∈l→∀ w:Ty,w.Sm→CallOK prog 71 [tcV c,exV k,tyV w] (rsV (fitsT c w k (typeE c k)))) :
  CallOK prog 77 [tcV c,.d (.slice (exR l)),.d (.slice (paR params)),strsV names,tysV args] (rsV (kidsT c (params.map fun f=>f.type.subst names args) l (l.map (typeE c)))):=by
 generalize hR:kidsT c (params.map fun f=>f.type.subst names args) l (l.map (typeE c))=R
 refine cB func77 ?_
 refine sR q3ex ?_
 (refine AWp.freeze 5 rfl rfl (wk [(1,.d (.slice (exR l))),(2,.d (.slice (paR params))),(3,strsV names),(4,tysV args),(5,.dptr (tcC c) 0),(10,.box 10 0)] [(10,rs0)] ?_))
 refine kR q3ex fun K1 u1=>?_
 refine AWp.block (AWp.forIdx l (X:=Unit) (fun j _=>[(1,.d (.slice (exR l))),(2,.d (.slice (paR params))),(3,strsV names),(4,tysV args),(5,.dptr (tcC c) 0),(10,.box 10 0),(11,intV j)]) (fun _ _=>[(10,rs0)])
  (fun j _=>kidsT c ((params.drop j).map fun f=>f.type.subst names args) (l.drop j) ((l.drop j).map (typeE c))=R) () hR (by simp [sle,vle,sget,tcC]) sB ?_ ?_)
 rotate_left
 ·intro j _ k hk hmem dp tk hlt hI
  have hj:j < params.length:=by omega
  have hp:params[j]? = some params[j]:=List.getElem?_eq_getElem hj
  have hpm:=List.getElem_mem hj
  have hpd:params.drop j=params[j]::params.drop (j+1):=List.drop_eq_getElem_cons hj
  generalize params[j]=f at *
  rw [dp,hpd,List.map_cons,List.map_cons,kidsT] at hI
  have hs:=ok_RSubst names args ha f.type (hps f hpm).type
  have hf:=hF k hmem (f.type.subst names args) ((hps f hpm).type.subst ha)
  generalize fitsT c (f.type.subst names args) k (typeE c k)=r at *
  refine kR1 hlt q3ex fun K2 u2=>?_
  refine gI u2 ?_
  clear u2 K2
  refine sK fun K2 u2=>?_
  refine AWp.block ?_
  (refine sG q3ex [] 15 [⟨[],[],[12],[12]⟩,⟨[],[],[12],[12]⟩,⟨[],[],[12],[12]⟩,⟨[],[],[12],[12]⟩,⟨[],[],[12],[12]⟩,⟨[],[],[12],[12]⟩,⟨[],[],[12],[12]⟩,⟨[],[],[12],[12]⟩,⟨[],[],[12],[12]⟩,⟨[],[],[12],[12]⟩,⟨[],[],[12],[12]⟩,⟨[],[],[12],[12]⟩,⟨[],[],[12],[12]⟩,⟨[],[],[12],[12]⟩,⟨[12],[12],[],[]⟩] fun K z=>?_;simp -implicitDefEqProofs only [EV,Nat.reduceAdd,Nat.reduceEqDiff,Nat.reduceBEq,reduceCtorEq,TF26,TF28,TF72,tcC];refine ci (exR_get hk) ?_;refine ci (paR_get hp) ?_;refine cc hs ?_;refine cc hf ?_;apply z;clear z K)
  refine sR q3ex ?_
  refine AWp.cond rfl (fun hb=>?_) (fun hb=>?_)
  ·rw [if_pos hb] at hI
   refine sR q3ex ?_
   rw [← hI]
   exact aR
  ·rw [if_neg (by rw [hb];simp)] at hI
   refine AWp.skip (u2 _ _ ?_)
   clear u2 K2
   refine lT q3ex ?_
   exact⟨(),hI,(by simp [sle,vle,sget,tcC]),sB⟩
 intro _ hI
 rw [List.drop_length] at hI
 have hR0:R=res0:=by
  rw [← hI]
  cases (params.drop l.length).map fun f=>f.type.subst names args <;> rfl
 subst hR0
 refine kR1 Int.lt_irrefl q3ex fun K2 u2=>?_
 refine AWp.stopK rfl ?_
 simp only [thenA,blockA,if_true]
 refine u1 _ _ ?_
 refine sR q3ex ?_
 exact aR
set_option maxHeartbeats 4000000
variable {e:Ex} {x:Ty}
theorem sigT_at {j:Nat} {s:Sig} (h1:nameI (setT c.p c.env x) e.name=j)(h2:(setT c.p c.env x)[j]? = some s):sigT c e x=if s.formals.length≠e.targs.length then .inl e.pos else
  match chkL c.p c.env e.targs with
  | some q=>.inl q
  | none=>if 0≤boundsI c.p c.env s.formals e.targs then .inl ((e.targs[(boundsI c.p c.env s.formals e.targs).toNat]?).getD default).pos else
   if e.kids.length≠s.params.length+1 then .inl e.pos else .inr s:=by
 unfold sigT
 rw [h1,Int.toNat_natCast,h2]
 simp only
 by_cases hf:s.formals.length≠e.targs.length
 ·rw [if_pos (.inr hf),if_pos hf]
 ·rw [if_neg (by rintro (h | h);omega;exact hf h),if_neg hf] <;> rfl
abbrev q1fx:List Nat:=[0,1,2,3,4,5,6,7,8,9,10,11,12,13,14,15,16,40,54,70,85,102]
theorem ok_call16 (c:TCtx)(hc:c.Sm)(e:Ex)(he:e.Sm)(x:Ty)(hx:x.Sm)(hk1:1≤e.kids.length)
  (hF:∀ k,k∈e.kids.tail→∀ w:Ty,w.Sm→CallOK prog 71 [tcV c,exV k,tyV w] (rsV (fitsT c w k (typeE c k)))) :
  CallOK prog 78 [tcV c,exV e,tyV x] (trV (callT c e x (e.kids.tail.map (typeE c)))):=by
 have hset:=ok_RSet c.p hc.p c.env hc.el hc.env x hx
 have hsl:=setT_len hc.p c.env x
 have hss:=setT_Sm hc.p hc.env hx
 have hfind:=ok_RefFind12 (setT c.p c.env x) e.name hsl
 have hnoE:=ok_no16 e.pos
 have htl:=he.targs.1
 have hat:=@sigT_at c e x
 generalize hR:callT c e x (e.kids.tail.map (typeE c))=R
 unfold callT at hR
 have hno:sigT c e x=.inl e.pos→R=noT e.pos:=fun h=>by rw [← hR,h]
 have hneg:nameI (setT c.p c.env x) e.name = -1→sigT c e x=.inl e.pos:=fun h=>by
  unfold sigT
  rw [h]
  split
  ·rfl
  ·rw [if_pos (.inl (by decide))]
 have hidx:=idxF_cases (fun s:Sig=>decide (s.name=e.name)) (setT c.p c.env x)
 unfold nameI at hat hneg
 generalize setT c.p c.env x=l at *
 refine cB func78 ?_
 refine sR q1fx ?_
 (refine AWp.freeze 3 rfl rfl ?_;refine AWp.freeze 4 rfl rfl ?_;refine AWp.freeze 5 rfl rfl (wk [(3,.dptr (tcC c) 0),(4,.dptr (exC e) 0),(5,.dptr (tyC x) 0),(6,.box 6 0),(7,.box 7 0)] [(6,ty0C),(7,rs0)] ?_))
 (refine sQ q1fx fun K z=>?_;simp -implicitDefEqProofs only [EV,Nat.reduceAdd,Nat.reduceEqDiff,Nat.reduceLeDiff,reduceCtorEq,TF25,TF30,TF47,TF72,tcC];refine⟨_,.inl ⟨_,rfl,hset,rfl⟩,?_⟩;(try simp -implicitDefEqProofs only [EV,forall_const,implies_true,Nat.reduceAdd,Nat.reduceEqDiff,Nat.reduceBEq,Nat.reduceLeDiff,Nat.reduceSub,Nat.reduceMul,Int.reduceEq,Int.reduceLT,Int.reduceLE,Int.reduceSub,Int.reduceAdd,Int.reduceToNat,reduceCtorEq,Int.reduceNeg,TF3,TF4,TF9,TF23,TF25,TF26,TF28,TF30,TF34,TF47,TF48,TF49,TF51,TF55,TF72,TF114,tcC]);apply z;clear z K)
 refine sC hfind q1fx ?_
 rcases hidx with ⟨h1,_⟩ | ⟨j,s,h1,h2,_⟩
 ·rw [h1]
  obtain rfl:=hno (hneg h1)
  refine sK fun K1 u1=>?_
  refine dR q1fx 12 ?_
  refine tI ?_
  refine sC hnoE q1fx ?_
  exact aR
 have hsig:=hat h1 h2
 have hs:=hss s (List.mem_of_getElem? h2)
 rw [h1]
 have hj0:¬ (j:Int) < 0:=by omega
 by_cases hfl:s.formals.length=e.targs.length
 rotate_left
 ·rw [if_pos hfl] at hsig
  obtain rfl:=hno hsig
  have hfl':¬ (s.formals.length:Int)=(e.targs.length:Int):=by omega
  refine sK fun K1 u1=>?_
  (refine sG q1fx [] 12 [] fun K z=>?_;refine ev1 hj0 ?_;refine⟨by omega,_,siR_get h2,rfl,?_⟩;(try refine ev1 hfl' ?_);apply z;clear z K)
  refine tI ?_
  refine sC hnoE q1fx ?_
  exact aR
 rw [if_neg fun hh=>hh hfl] at hsig
 have hfl':(s.formals.length:Int)=(e.targs.length:Int):=by omega
 have hbo:=ok_RBounds c.p hc.p c.env hc.el hc.env s.formals hs.formals.1 hs.formals.2 e.targs hfl.symm he.targs.2
 have hbg:=@bounds_get c.p c.env s.formals e.targs
 refine sK fun K1 u1=>?_
 (refine sG q1fx [] 12 [] fun K z=>?_;refine ev1 hj0 ?_;refine⟨by omega,_,siR_get h2,rfl,?_⟩;(try refine ev1 hfl' ?_);apply z;clear z K)
 refine kI u1 ?_
 clear u1 K1
 (refine sV q1fx fun K z=>?_;refine ci (siR_get h2) ?_;apply z;clear z K)
 (refine AWp.freeze 10 rfl rfl (wk [(3,.dptr (tcC c) 0),(4,.dptr (exC e) 0),(6,.box 6 0),(7,.box 7 0),(10,.dptr (siC s) 0)] [(6,ty0C),(7,rs0)] ?_))
 refine sK fun K1 u1=>?_
 (refine sQ q1fx fun K z=>?_;simp -implicitDefEqProofs only [EV,Nat.reduceEqDiff,reduceCtorEq,tcC];apply z;clear z K)
 refine AWp.block (AWp.forIdx e.targs (X:=Unit) (fun j _=>[(3,.dptr (tcC c) 0),(4,.dptr (exC e) 0),(6,.box 6 0),(7,.box 7 0),(10,.dptr (siC s) 0),(11,intV j)]) (fun _ _=>[(6,ty0C),(7,rs0)])
  (fun j _=>chkL c.p c.env (e.targs.drop j)=chkL c.p c.env e.targs) () (by simp) (by simp [sle,vle,sget,tcC,exC,siC]) sB ?_ ?_)
 rotate_left
 ·intro j _ d hd hmem dp tk hlt hI
  have hck:=ok_RCheck c.p hc.p c.env hc.el hc.env d (he.targs.2 d hmem)
  rw [dp,chkL] at hI
  refine sK fun K2 u2=>?_
  (refine sQ q1fx fun K z=>?_;simp -implicitDefEqProofs only [EV,Nat.reduceEqDiff,reduceCtorEq,TF23,TF28,tcC,hlt];apply z;clear z K)
  refine gI u2 ?_
  clear u2 K2
  refine sK fun K2 u2=>?_
  refine AWp.block ?_
  cases ho:chk c.p c.env d with
  | none =>
   rw [ho] at hck hI
   simp only [chkV] at hck hI
   (refine sG q1fx [] 14 [] fun K z=>?_;refine ev ?_;refine ci (tyR_get hd) ?_;refine cc hck ?_;apply z;clear z K)
   refine sR q1fx ?_
   refine AWp.condF rfl (AWp.skip (u2 _ _ ?_))
   clear u2 K2
   (refine lV q1fx fun K z=>?_;refine⟨by first | (unfold InR;omega) | (simp only [InR,sm] at *;omega),?_⟩;(try simp -implicitDefEqProofs only [EV,forall_const,implies_true,Nat.reduceAdd,Nat.reduceEqDiff,Nat.reduceBEq,Nat.reduceLeDiff,Nat.reduceSub,Nat.reduceMul,Int.reduceEq,Int.reduceLT,Int.reduceLE,Int.reduceSub,Int.reduceAdd,Int.reduceToNat,reduceCtorEq,Int.reduceNeg,TF3,TF4,TF9,TF23,TF25,TF26,TF28,TF30,TF34,TF47,TF48,TF49,TF51,TF55,TF72,TF114,tcC]);apply z;clear z K;try simp only [thenA,])
   exact⟨(),hI,(by simp [sle,vle,sget,tcC,exC,siC]),sB⟩
  | some q =>
   rw [ho] at hck hI
   simp only [chkV] at hck hI
   rw [← hI] at hsig
   obtain rfl:R=noT q:=by rw [← hR,hsig]
   have hnoQ:=ok_no16 q
   (refine sG q1fx [] 14 [] fun K z=>?_;refine ev ?_;refine ci (tyR_get hd) ?_;refine cc hck ?_;apply z;clear z K)
   refine sR q1fx ?_
   refine AWp.condT rfl ?_
   refine sC hnoQ q1fx ?_
   exact aR
 intro _ hI
 rw [List.drop_length,chkL] at hI
 rw [← hI] at hsig
 simp only at hsig
 clear hI
 refine sK fun K2 u2=>?_
 (refine sQ q1fx fun K z=>?_;simp -implicitDefEqProofs only [EV,Nat.reduceEqDiff,reduceCtorEq,TF23,TF28,tcC,Int.lt_irrefl];apply z;clear z K)
 refine AWp.stopK rfl ?_
 simp only [thenA,blockA,if_true]
 refine u1 _ _ ?_
 clear u2 K2 u1 K1
 refine sC hbo q1fx ?_
 generalize boundsI c.p c.env s.formals e.targs=b at *
 by_cases hb0:0≤b
 ·obtain⟨u,hu⟩:=hbg hb0 hfl.symm
  rw [if_pos hb0,hu,Option.getD_some] at hsig
  obtain rfl:R=noT u.pos:=by rw [← hR,hsig]
  have hnoQ:=ok_no16 u.pos
  refine kR1 hb0 q1fx fun K1 u1=>?_
  refine tI ?_
  (refine sV q1fx fun K z=>?_;refine ci (tyR_get hu) ?_;refine cc hnoQ ?_;apply z;clear z K)
  exact aR
 rw [if_neg hb0] at hsig
 refine kR1 hb0 q1fx fun K1 u1=>?_
 refine kI u1 ?_
 clear u1 K1
 have hpl:=hs.params.1
 by_cases hkl:e.kids.length=s.params.length+1
 rotate_left
 ·rw [if_pos hkl] at hsig
  obtain rfl:=hno hsig
  have hkl':¬ (e.kids.length:Int)=(s.params.length:Int)+1:=by omega
  refine sK fun K1 u1=>?_
  (refine sQ q1fx fun K z=>?_;refine ev1 hkl' ?_;refine⟨by first | (unfold InR;omega) | (simp only [InR,sm] at *;omega),?_⟩;(try simp -implicitDefEqProofs only [EV,forall_const,implies_true,Nat.reduceAdd,Nat.reduceEqDiff,Nat.reduceBEq,Nat.reduceLeDiff,Nat.reduceSub,Nat.reduceMul,Int.reduceEq,Int.reduceLT,Int.reduceLE,Int.reduceSub,Int.reduceAdd,Int.reduceToNat,reduceCtorEq,Int.reduceNeg,TF3,TF4,TF9,TF23,TF25,TF26,TF28,TF30,TF34,TF47,TF48,TF49,TF51,TF55,TF72,TF114,tcC,hkl']);apply z;clear z K)
  refine tI ?_
  refine sC hnoE q1fx ?_
  exact aR
 rw [if_neg fun hh=>hh hkl] at hsig
 have hkl':(e.kids.length:Int)=(s.params.length:Int)+1:=by omega
 refine sK fun K1 u1=>?_
 (refine sQ q1fx fun K z=>?_;refine ev1 hkl' ?_;refine⟨by first | (unfold InR;omega) | (simp only [InR,sm] at *;omega),?_⟩;(try simp -implicitDefEqProofs only [EV,forall_const,implies_true,Nat.reduceAdd,Nat.reduceEqDiff,Nat.reduceBEq,Nat.reduceLeDiff,Nat.reduceSub,Nat.reduceMul,Int.reduceEq,Int.reduceLT,Int.reduceLE,Int.reduceSub,Int.reduceAdd,Int.reduceToNat,reduceCtorEq,Int.reduceNeg,TF3,TF4,TF9,TF23,TF25,TF26,TF28,TF30,TF34,TF47,TF48,TF49,TF51,TF55,TF72,TF114,tcC,hkl']);apply z;clear z K)
 refine kI u1 ?_
 clear u1 K1
 have hnm:=ok_RefNames s.formals hs.formals.1
 have hki:=ok_kids16 c e.kids.tail (by rw [List.length_tail];omega) s.params (by rw [List.length_tail];omega) hs.params.2 (s.formals.map (·.name)) e.targs he.targs.2 hF
 have hsr:=ok_RSubst (s.formals.map (·.name)) e.targs he.targs.2 s.result hs.result
 rw [hsig] at hR
 simp only at hR
 have hfd:=ok_found16 (s.result.subst (s.formals.map (·.name)) e.targs) (kidsT c (s.params.map fun f=>f.type.subst (s.formals.map (·.name)) e.targs) e.kids.tail (e.kids.tail.map (typeE c)))
 have hR':R=foundT (s.result.subst (s.formals.map (·.name)) e.targs,kidsT c (s.params.map fun f=>f.type.subst (s.formals.map (·.name)) e.targs) e.kids.tail (e.kids.tail.map (typeE c))):=hR.symm
 rw [← hR'] at hfd
 have hex:exR e.kids.tail=((exR e.kids).take e.kids.length).drop 1:=by rw [List.take_of_length_le (by rw [exR_len];exact Nat.le_refl _),exR_map,exR_map,← List.map_drop,List.drop_one]
 rw [hex] at hki
 generalize kidsT c (s.params.map fun f=>f.type.subst (s.formals.map (·.name)) e.targs) e.kids.tail (e.kids.tail.map (typeE c))=r at *
 obtain⟨rt,rr⟩:=R
 (refine sV q1fx fun K z=>?_;refine⟨_,.inl ⟨_,rfl,hnm,rfl⟩,?_⟩;(try simp -implicitDefEqProofs only [EV,forall_const,implies_true,Nat.reduceAdd,Nat.reduceEqDiff,Nat.reduceBEq,Nat.reduceLeDiff,Nat.reduceSub,Nat.reduceMul,Int.reduceEq,Int.reduceLT,Int.reduceLE,Int.reduceSub,Int.reduceAdd,Int.reduceToNat,reduceCtorEq,Int.reduceNeg,TF3,TF4,TF9,TF23,TF25,TF26,TF28,TF30,TF34,TF47,TF48,TF49,TF51,TF55,TF72,TF114,tcC]);apply z;clear z K)
 (refine sG q1fx [] 11 [⟨[],[],[16],[16]⟩,⟨[],[],[16],[16]⟩,⟨[],[],[16],[16]⟩,⟨[],[],[16],[16]⟩,⟨[],[],[16],[16]⟩,⟨[],[],[16],[16]⟩,⟨[],[],[16],[16]⟩,⟨[],[],[16],[16]⟩,⟨[],[],[16],[16]⟩,⟨[],[],[16],[16]⟩,⟨[16],[16],[],[]⟩] fun K z=>?_;refine ev ?_;refine⟨exR_row _,by omega,by omega,?_⟩;(try simp -implicitDefEqProofs only [EV,forall_const,implies_true,Nat.reduceAdd,Nat.reduceEqDiff,Nat.reduceBEq,Nat.reduceLeDiff,Nat.reduceSub,Nat.reduceMul,Int.reduceEq,Int.reduceLT,Int.reduceLE,Int.reduceSub,Int.reduceAdd,Int.reduceToNat,reduceCtorEq,Int.reduceNeg,TF3,TF4,TF9,TF23,TF25,TF26,TF28,TF30,TF34,TF47,TF48,TF49,TF51,TF55,TF72,TF114,tcC]);refine cc hki ?_;apply z;clear z K)
 (refine sG q1fx [] 10 [] fun K z=>?_;refine ev ?_;refine cc hsr ?_;refine cc hfd ?_;apply z;clear z K)
 exact aR
set_option maxHeartbeats 1000000
set_option maxHeartbeats 4000000
theorem varTy_neg (h:fieldI c.vars e.name = -1):varTy c e=noT e.pos:=by
 unfold varTy;rw [h];split
 ·rw [if_pos (by decide)]
 ·rfl
theorem fieldT_neg {r:Res} (hs:structT c x=true)(h:fieldI (fieldsT c.p x) e.name = -1):fieldT c e x r=noT e.pos:=by
 unfold fieldT;rw [if_neg (by rw [hs];simp),h];split
 ·rw [if_pos (by decide)]
 ·rfl
theorem structT_inst (h:structT c x=true):instB c.p x 1=true:=by
 unfold structT at h;rw [Bool.and_eq_true] at h;exact h.2
theorem boundT_of (h:¬ 0≤findV c.env x):boundT c x=x:=by
 unfold boundT boundV;rw [if_pos (by omega)];rfl
theorem boundT_at {f:Formal} (h:0≤findV c.env x)(hf:c.env[(findV c.env x).toNat]? = some f):boundT c x=f.bound:=by
 unfold boundT boundV;rw [if_neg (by omega),hf];rfl
abbrev q1gx:List Nat:=[0,1,2,3,4,5,6,7,8,9,10,11,12,13,14,15,16,19,24,35,50,61,82,117,133,138,147,151,164,174,199,205,212,240]
theorem ok_Type16 (c:TCtx)(hc:c.Sm):∀ e:Ex,e.Sm→CallOK prog 32 [tcV c,exV e] (trV (typeE c e)):=by
 intro e
 induction e using Ex.induct with | _ e ih=>?_
 intro he
 have hnoE:=ok_no16 e.pos
 have hF:∀ k,k∈e.kids→∀ w:Ty,w.Sm→CallOK prog 71 [tcV c,exV k,tyV w] (rsV (fitsT c w k (typeE c k))):=fun k hk w hw =>
  ok_Fits16 c hc k (ih k hk (he.kids.2 k hk)) (typeE_Sm hc k (he.kids.2 k hk)) w hw
 have hkl:=he.kids.1
 have hvl:=hc.vl
 rw [typeE_eq]
 generalize hR:typeN c e (e.kids.map (typeE c))=R
 unfold typeN at hR
 refine cB func32 ?_
 refine sR q1gx ?_
 (refine AWp.freeze 2 rfl rfl ?_;refine AWp.freeze 3 rfl rfl (wk [(2,.dptr (tcC c) 0),(3,.dptr (exC e) 0),(4,.box 4 0),(5,.box 5 0)] [(4,ty0C),(5,rs0)] ?_))
 by_cases k1:e.kind=1
 ·rw [if_pos k1] at hR
  have d1:=decide_eq_true k1
  refine sK fun K1 u1=>?_
  (refine sQ q1gx fun K z=>?_;simp -implicitDefEqProofs only [EV,forall_const,implies_true,Nat.reduceAdd,Nat.reduceEqDiff,Nat.reduceBEq,Nat.reduceLeDiff,Nat.reduceSub,Nat.reduceMul,Int.reduceEq,Int.reduceLT,Int.reduceLE,Int.reduceSub,Int.reduceAdd,Int.reduceToNat,reduceCtorEq,Int.reduceNeg,TF3,TF4,TF9,TF25,TF26,TF28,TF30,TF34,TF47,TF48,TF55,TF72,TF114,tcC,d1];apply z;clear z K)
  refine tI ?_
  refine sK fun K2 u2=>?_
  (refine sQ q1gx fun K z=>?_;simp -implicitDefEqProofs only [EV,forall_const,implies_true,Nat.reduceAdd,Nat.reduceEqDiff,Nat.reduceBEq,Nat.reduceLeDiff,Nat.reduceSub,Nat.reduceMul,Int.reduceEq,Int.reduceLT,Int.reduceLE,Int.reduceSub,Int.reduceAdd,Int.reduceToNat,reduceCtorEq,Int.reduceNeg,TF3,TF4,TF9,TF25,TF26,TF28,TF30,TF34,TF47,TF48,TF55,TF72,TF114,tcC];apply z;clear z K)
  refine AWp.block (AWp.forIdx c.vars (X:=Unit) (fun j _=>[(2,.dptr (tcC c) 0),(3,.dptr (exC e) 0),(4,.box 4 0),(5,.box 5 0),(6,intV j)]) (fun _ _=>[(4,ty0C),(5,rs0)])
   (fun j _=>∀ y,y∈c.vars.take j→(fun f:Param=>decide (f.name=e.name)) y=false) () (by simp) (by simp [sle,vle,sget,tcC,exC]) (by simp [ble,bget,exC,tyC,foC,paC,siC,deC,prC]) ?_ ?_)
  rotate_left
  ·intro j _ d hd hmem dp tk hlt hI
   refine sK fun K3 u3=>?_
   (refine sQ q1gx fun K z=>?_;simp -implicitDefEqProofs only [EV,forall_const,implies_true,Nat.reduceAdd,Nat.reduceEqDiff,Nat.reduceBEq,Nat.reduceLeDiff,Nat.reduceSub,Nat.reduceMul,Int.reduceEq,Int.reduceLT,Int.reduceLE,Int.reduceSub,Int.reduceAdd,Int.reduceToNat,reduceCtorEq,Int.reduceNeg,TF3,TF4,TF9,TF25,TF26,TF28,TF30,TF34,TF47,TF48,TF55,TF72,TF114,tcC,hlt];apply z;clear z K)
   refine gI u3 ?_
   clear u3 K3
   refine sK fun K3 u3=>?_
   refine AWp.block ?_
   by_cases hn:d.name=e.name
   ·have hix:fieldI c.vars e.name=j:=idxF_some hd (by simp [hn]) hI
    have hj0:¬ (j:Int) < 0:=by omega
    obtain rfl:R=(d.type,res0):=by
     rw [← hR];unfold varTy;rw [hix,Int.toNat_natCast,hd];simp only;rw [if_neg hj0]
    have dn:=decide_eq_true hn
    (refine sG q1gx [] 8 [] fun K z=>?_;simp -implicitDefEqProofs only [EV,forall_const,implies_true,Nat.reduceAdd,Nat.reduceEqDiff,Nat.reduceBEq,Nat.reduceLeDiff,Nat.reduceSub,Nat.reduceMul,Int.reduceEq,Int.reduceLT,Int.reduceLE,Int.reduceSub,Int.reduceAdd,Int.reduceToNat,reduceCtorEq,Int.reduceNeg,TF3,TF4,TF9,TF25,TF26,TF28,TF30,TF34,TF47,TF48,TF55,TF72,TF114,tcC,dn];refine⟨by omega,_,paR_get hd,rfl,?_⟩;(try simp -implicitDefEqProofs only [EV,forall_const,implies_true,Nat.reduceAdd,Nat.reduceEqDiff,Nat.reduceBEq,Nat.reduceLeDiff,Nat.reduceSub,Nat.reduceMul,Int.reduceEq,Int.reduceLT,Int.reduceLE,Int.reduceSub,Int.reduceAdd,Int.reduceToNat,reduceCtorEq,Int.reduceNeg,TF3,TF4,TF9,TF25,TF26,TF28,TF30,TF34,TF47,TF48,TF55,TF72,TF114,tcC,dn]);apply z;clear z K)
    refine AWp.condT rfl ?_
    (refine sQ q1gx fun K z=>?_;simp -implicitDefEqProofs only [EV,forall_const,implies_true,Nat.reduceAdd,Nat.reduceEqDiff,Nat.reduceBEq,Nat.reduceLeDiff,Nat.reduceSub,Nat.reduceMul,Int.reduceEq,Int.reduceLT,Int.reduceLE,Int.reduceSub,Int.reduceAdd,Int.reduceToNat,reduceCtorEq,Int.reduceNeg,TF3,TF4,TF9,TF25,TF26,TF28,TF30,TF34,TF47,TF48,TF55,TF72,TF114,tcC];refine⟨by omega,_,paR_get hd,rfl,?_⟩;(try simp -implicitDefEqProofs only [EV,forall_const,implies_true,Nat.reduceAdd,Nat.reduceEqDiff,Nat.reduceBEq,Nat.reduceLeDiff,Nat.reduceSub,Nat.reduceMul,Int.reduceEq,Int.reduceLT,Int.reduceLE,Int.reduceSub,Int.reduceAdd,Int.reduceToNat,reduceCtorEq,Int.reduceNeg,TF3,TF4,TF9,TF25,TF26,TF28,TF30,TF34,TF47,TF48,TF55,TF72,TF114,tcC]);apply z;clear z K)
    exact aR
   ·(refine sG q1gx [] 8 [] fun K z=>?_;simp -implicitDefEqProofs only [EV,forall_const,implies_true,Nat.reduceAdd,Nat.reduceEqDiff,Nat.reduceBEq,Nat.reduceLeDiff,Nat.reduceSub,Nat.reduceMul,Int.reduceEq,Int.reduceLT,Int.reduceLE,Int.reduceSub,Int.reduceAdd,Int.reduceToNat,reduceCtorEq,Int.reduceNeg,TF3,TF4,TF9,TF25,TF26,TF28,TF30,TF34,TF47,TF48,TF55,TF72,TF114,tcC,hn];refine⟨by omega,_,paR_get hd,rfl,?_⟩;(try simp -implicitDefEqProofs only [EV,forall_const,implies_true,Nat.reduceAdd,Nat.reduceEqDiff,Nat.reduceBEq,Nat.reduceLeDiff,Nat.reduceSub,Nat.reduceMul,Int.reduceEq,Int.reduceLT,Int.reduceLE,Int.reduceSub,Int.reduceAdd,Int.reduceToNat,reduceCtorEq,Int.reduceNeg,TF3,TF4,TF9,TF25,TF26,TF28,TF30,TF34,TF47,TF48,TF55,TF72,TF114,tcC,hn]);apply z;clear z K)
    refine AWp.condF rfl (AWp.skip (u3 _ _ ?_))
    clear u3 K3
    (refine lQ q1gx fun K z=>?_;simp -implicitDefEqProofs only [EV,forall_const,implies_true,Nat.reduceAdd,Nat.reduceEqDiff,Nat.reduceBEq,Nat.reduceLeDiff,Nat.reduceSub,Nat.reduceMul,Int.reduceEq,Int.reduceLT,Int.reduceLE,Int.reduceSub,Int.reduceAdd,Int.reduceToNat,reduceCtorEq,Int.reduceNeg,TF3,TF4,TF9,TF25,TF26,TF28,TF30,TF34,TF47,TF48,TF55,TF72,TF114,tcC];refine⟨by first | (unfold InR;omega) | (simp only [InR,sm,lim] at *;omega),?_⟩;(try simp -implicitDefEqProofs only [EV,forall_const,implies_true,Nat.reduceAdd,Nat.reduceEqDiff,Nat.reduceBEq,Nat.reduceLeDiff,Nat.reduceSub,Nat.reduceMul,Int.reduceEq,Int.reduceLT,Int.reduceLE,Int.reduceSub,Int.reduceAdd,Int.reduceToNat,reduceCtorEq,Int.reduceNeg,TF3,TF4,TF9,TF25,TF26,TF28,TF30,TF34,TF47,TF48,TF55,TF72,TF114,tcC]);apply z;clear z K;try simp only [thenA,blockA,if_true])
    refine⟨(),?_,(by simp [sle,vle,sget,tcC,exC]),(by simp [ble,bget,exC,tyC,foC,paC,siC,deC,prC])⟩
    intro y hy
    rw [tk,List.mem_append] at hy
    rcases hy with hy | hy
    ·exact hI y hy
    ·simp only [List.mem_singleton] at hy;subst hy;exact decide_eq_false hn
  intro _ hI
  rw [List.take_length] at hI
  obtain rfl:R=noT e.pos:=by rw [← hR];exact varTy_neg (idxF_none hI)
  refine sK fun K3 u3=>?_
  (refine sQ q1gx fun K z=>?_;simp -implicitDefEqProofs only [EV,forall_const,implies_true,Nat.reduceAdd,Nat.reduceEqDiff,Nat.reduceBEq,Nat.reduceLeDiff,Nat.reduceSub,Nat.reduceMul,Int.reduceEq,Int.reduceLT,Int.reduceLE,Int.reduceSub,Int.reduceAdd,Int.reduceToNat,reduceCtorEq,Int.reduceNeg,TF3,TF4,TF9,TF25,TF26,TF28,TF30,TF34,TF47,TF48,TF55,TF72,TF114,tcC,Int.lt_irrefl];apply z;clear z K)
  refine AWp.stopK rfl ?_
  simp only [thenA,blockA,if_true]
  refine u2 _ _ ?_
  (refine sQ q1gx fun K z=>?_;simp -implicitDefEqProofs only [EV,forall_const,implies_true,Nat.reduceAdd,Nat.reduceEqDiff,Nat.reduceBEq,Nat.reduceLeDiff,Nat.reduceSub,Nat.reduceMul,Int.reduceEq,Int.reduceLT,Int.reduceLE,Int.reduceSub,Int.reduceAdd,Int.reduceToNat,reduceCtorEq,Int.reduceNeg,TF3,TF4,TF9,TF25,TF26,TF28,TF30,TF34,TF47,TF48,TF55,TF72,TF114,tcC];refine⟨_,.inl ⟨_,rfl,hnoE,rfl⟩,?_⟩;(try simp -implicitDefEqProofs only [EV,forall_const,implies_true,Nat.reduceAdd,Nat.reduceEqDiff,Nat.reduceBEq,Nat.reduceLeDiff,Nat.reduceSub,Nat.reduceMul,Int.reduceEq,Int.reduceLT,Int.reduceLE,Int.reduceSub,Int.reduceAdd,Int.reduceToNat,reduceCtorEq,Int.reduceNeg,TF3,TF4,TF9,TF25,TF26,TF28,TF30,TF34,TF47,TF48,TF55,TF72,TF114,tcC]);apply z;clear z K)
  exact aR
 rw [if_neg k1] at hR
 refine sK fun K1 u1=>?_
 (refine sQ q1gx fun K z=>?_;simp -implicitDefEqProofs only [EV,forall_const,implies_true,Nat.reduceAdd,Nat.reduceEqDiff,Nat.reduceBEq,Nat.reduceLeDiff,Nat.reduceSub,Nat.reduceMul,Int.reduceEq,Int.reduceLT,Int.reduceLE,Int.reduceSub,Int.reduceAdd,Int.reduceToNat,reduceCtorEq,Int.reduceNeg,TF3,TF4,TF9,TF25,TF26,TF28,TF30,TF34,TF47,TF48,TF55,TF72,TF114,tcC,k1];apply z;clear z K)
 refine kI u1 ?_
 clear u1 K1
 by_cases k3:e.kind=3
 ·rw [if_pos k3] at hR
  unfold litT at hR
  have d3:=decide_eq_true k3
  have hck:=ok_RCheck c.p hc.p c.env hc.el hc.env e.type he.type
  have hst:=ok_isStruct16 c hc e.type
  refine sK fun K1 u1=>?_
  (refine sQ q1gx fun K z=>?_;simp -implicitDefEqProofs only [EV,forall_const,implies_true,Nat.reduceAdd,Nat.reduceEqDiff,Nat.reduceBEq,Nat.reduceLeDiff,Nat.reduceSub,Nat.reduceMul,Int.reduceEq,Int.reduceLT,Int.reduceLE,Int.reduceSub,Int.reduceAdd,Int.reduceToNat,reduceCtorEq,Int.reduceNeg,TF3,TF4,TF9,TF25,TF26,TF28,TF30,TF34,TF47,TF48,TF55,TF72,TF114,tcC,d3];apply z;clear z K)
  refine tI ?_
  cases ho:chk c.p c.env e.type with
  | some q =>
   rw [ho] at hck hR
   simp only [chkV] at hck hR
   have hnoQ:=ok_no16 q
   subst hR
   (refine sQ q1gx fun K z=>?_;simp -implicitDefEqProofs only [EV,forall_const,implies_true,Nat.reduceAdd,Nat.reduceEqDiff,Nat.reduceBEq,Nat.reduceLeDiff,Nat.reduceSub,Nat.reduceMul,Int.reduceEq,Int.reduceLT,Int.reduceLE,Int.reduceSub,Int.reduceAdd,Int.reduceToNat,reduceCtorEq,Int.reduceNeg,TF3,TF4,TF9,TF25,TF26,TF28,TF30,TF34,TF47,TF48,TF55,TF72,TF114,tcC];refine⟨_,.inl ⟨_,rfl,hck,rfl⟩,?_⟩;(try simp -implicitDefEqProofs only [EV,forall_const,implies_true,Nat.reduceAdd,Nat.reduceEqDiff,Nat.reduceBEq,Nat.reduceLeDiff,Nat.reduceSub,Nat.reduceMul,Int.reduceEq,Int.reduceLT,Int.reduceLE,Int.reduceSub,Int.reduceAdd,Int.reduceToNat,reduceCtorEq,Int.reduceNeg,TF3,TF4,TF9,TF25,TF26,TF28,TF30,TF34,TF47,TF48,TF55,TF72,TF114,tcC]);apply z;clear z K)
   refine sK fun K2 u2=>?_
   (refine sQ q1gx fun K z=>?_;simp -implicitDefEqProofs only [EV,forall_const,implies_true,Nat.reduceAdd,Nat.reduceEqDiff,Nat.reduceBEq,Nat.reduceLeDiff,Nat.reduceSub,Nat.reduceMul,Int.reduceEq,Int.reduceLT,Int.reduceLE,Int.reduceSub,Int.reduceAdd,Int.reduceToNat,reduceCtorEq,Int.reduceNeg,TF3,TF4,TF9,TF25,TF26,TF28,TF30,TF34,TF47,TF48,TF55,TF72,TF114,tcC];apply z;clear z K)
   refine tI ?_
   (refine sQ q1gx fun K z=>?_;simp -implicitDefEqProofs only [EV,forall_const,implies_true,Nat.reduceAdd,Nat.reduceEqDiff,Nat.reduceBEq,Nat.reduceLeDiff,Nat.reduceSub,Nat.reduceMul,Int.reduceEq,Int.reduceLT,Int.reduceLE,Int.reduceSub,Int.reduceAdd,Int.reduceToNat,reduceCtorEq,Int.reduceNeg,TF3,TF4,TF9,TF25,TF26,TF28,TF30,TF34,TF47,TF48,TF55,TF72,TF114,tcC];refine⟨_,.inl ⟨_,rfl,hnoQ,rfl⟩,?_⟩;(try simp -implicitDefEqProofs only [EV,forall_const,implies_true,Nat.reduceAdd,Nat.reduceEqDiff,Nat.reduceBEq,Nat.reduceLeDiff,Nat.reduceSub,Nat.reduceMul,Int.reduceEq,Int.reduceLT,Int.reduceLE,Int.reduceSub,Int.reduceAdd,Int.reduceToNat,reduceCtorEq,Int.reduceNeg,TF3,TF4,TF9,TF25,TF26,TF28,TF30,TF34,TF47,TF48,TF55,TF72,TF114,tcC]);apply z;clear z K)
   exact aR
  | none =>
   rw [ho] at hck hR
   simp only [chkV] at hck hR
   (refine sQ q1gx fun K z=>?_;simp -implicitDefEqProofs only [EV,forall_const,implies_true,Nat.reduceAdd,Nat.reduceEqDiff,Nat.reduceBEq,Nat.reduceLeDiff,Nat.reduceSub,Nat.reduceMul,Int.reduceEq,Int.reduceLT,Int.reduceLE,Int.reduceSub,Int.reduceAdd,Int.reduceToNat,reduceCtorEq,Int.reduceNeg,TF3,TF4,TF9,TF25,TF26,TF28,TF30,TF34,TF47,TF48,TF55,TF72,TF114,tcC];refine⟨_,.inl ⟨_,rfl,hck,rfl⟩,?_⟩;(try simp -implicitDefEqProofs only [EV,forall_const,implies_true,Nat.reduceAdd,Nat.reduceEqDiff,Nat.reduceBEq,Nat.reduceLeDiff,Nat.reduceSub,Nat.reduceMul,Int.reduceEq,Int.reduceLT,Int.reduceLE,Int.reduceSub,Int.reduceAdd,Int.reduceToNat,reduceCtorEq,Int.reduceNeg,TF3,TF4,TF9,TF25,TF26,TF28,TF30,TF34,TF47,TF48,TF55,TF72,TF114,tcC]);apply z;clear z K)
   refine sK fun K2 u2=>?_
   (refine sQ q1gx fun K z=>?_;simp -implicitDefEqProofs only [EV,forall_const,implies_true,Nat.reduceAdd,Nat.reduceEqDiff,Nat.reduceBEq,Nat.reduceLeDiff,Nat.reduceSub,Nat.reduceMul,Int.reduceEq,Int.reduceLT,Int.reduceLE,Int.reduceSub,Int.reduceAdd,Int.reduceToNat,reduceCtorEq,Int.reduceNeg,TF3,TF4,TF9,TF25,TF26,TF28,TF30,TF34,TF47,TF48,TF55,TF72,TF114,tcC];apply z;clear z K)
   refine kI u2 ?_
   clear u2 K2
   rcases Bool.eq_false_or_eq_true (structT c e.type) with hs | hs
   rotate_left
   ·rw [if_pos (.inl hs)] at hR
    subst hR
    rw [hs] at hst
    refine sK fun K2 u2=>?_
    (refine sG q1gx [] 15 [] fun K z=>?_;simp -implicitDefEqProofs only [EV,forall_const,implies_true,Nat.reduceAdd,Nat.reduceEqDiff,Nat.reduceBEq,Nat.reduceLeDiff,Nat.reduceSub,Nat.reduceMul,Int.reduceEq,Int.reduceLT,Int.reduceLE,Int.reduceSub,Int.reduceAdd,Int.reduceToNat,reduceCtorEq,Int.reduceNeg,TF3,TF4,TF9,TF25,TF26,TF28,TF30,TF34,TF47,TF48,TF55,TF72,TF114,tcC];refine⟨_,.inl ⟨_,rfl,hst,rfl⟩,?_⟩;(try simp -implicitDefEqProofs only [EV,forall_const,implies_true,Nat.reduceAdd,Nat.reduceEqDiff,Nat.reduceBEq,Nat.reduceLeDiff,Nat.reduceSub,Nat.reduceMul,Int.reduceEq,Int.reduceLT,Int.reduceLE,Int.reduceSub,Int.reduceAdd,Int.reduceToNat,reduceCtorEq,Int.reduceNeg,TF3,TF4,TF9,TF25,TF26,TF28,TF30,TF34,TF47,TF48,TF55,TF72,TF114,tcC]);apply z;clear z K)
    refine tI ?_
    (refine sQ q1gx fun K z=>?_;simp -implicitDefEqProofs only [EV,forall_const,implies_true,Nat.reduceAdd,Nat.reduceEqDiff,Nat.reduceBEq,Nat.reduceLeDiff,Nat.reduceSub,Nat.reduceMul,Int.reduceEq,Int.reduceLT,Int.reduceLE,Int.reduceSub,Int.reduceAdd,Int.reduceToNat,reduceCtorEq,Int.reduceNeg,TF3,TF4,TF9,TF25,TF26,TF28,TF30,TF34,TF47,TF48,TF55,TF72,TF114,tcC];refine⟨_,.inl ⟨_,rfl,hnoE,rfl⟩,?_⟩;(try simp -implicitDefEqProofs only [EV,forall_const,implies_true,Nat.reduceAdd,Nat.reduceEqDiff,Nat.reduceBEq,Nat.reduceLeDiff,Nat.reduceSub,Nat.reduceMul,Int.reduceEq,Int.reduceLT,Int.reduceLE,Int.reduceSub,Int.reduceAdd,Int.reduceToNat,reduceCtorEq,Int.reduceNeg,TF3,TF4,TF9,TF25,TF26,TF28,TF30,TF34,TF47,TF48,TF55,TF72,TF114,tcC]);apply z;clear z K)
    exact aR
   have hfi:=ok_RFields c.p hc.p e.type he.type (structT_inst hs)
   rw [hs] at hst
   by_cases hl:(fieldsT c.p e.type).length=e.kids.length
   rotate_left
   ·rw [if_pos (.inr hl)] at hR
    subst hR
    have hl':¬ ((fieldsT c.p e.type).length:Int)=(e.kids.length:Int):=by omega
    refine sK fun K2 u2=>?_
    (refine sG q1gx [] 15 [] fun K z=>?_;simp -implicitDefEqProofs only [EV,forall_const,implies_true,Nat.reduceAdd,Nat.reduceEqDiff,Nat.reduceBEq,Nat.reduceLeDiff,Nat.reduceSub,Nat.reduceMul,Int.reduceEq,Int.reduceLT,Int.reduceLE,Int.reduceSub,Int.reduceAdd,Int.reduceToNat,reduceCtorEq,Int.reduceNeg,TF3,TF4,TF9,TF25,TF26,TF28,TF30,TF34,TF47,TF48,TF55,TF72,TF114,tcC,hl',TF48,TF26];refine⟨_,.inl ⟨_,rfl,hst,rfl⟩,?_⟩;(try simp -implicitDefEqProofs only [EV,forall_const,implies_true,Nat.reduceAdd,Nat.reduceEqDiff,Nat.reduceBEq,Nat.reduceLeDiff,Nat.reduceSub,Nat.reduceMul,Int.reduceEq,Int.reduceLT,Int.reduceLE,Int.reduceSub,Int.reduceAdd,Int.reduceToNat,reduceCtorEq,Int.reduceNeg,TF3,TF4,TF9,TF25,TF26,TF28,TF30,TF34,TF47,TF48,TF55,TF72,TF114,tcC,hl',TF48,TF26]);refine⟨_,.inl ⟨_,rfl,hfi,rfl⟩,?_⟩;(try simp -implicitDefEqProofs only [EV,forall_const,implies_true,Nat.reduceAdd,Nat.reduceEqDiff,Nat.reduceBEq,Nat.reduceLeDiff,Nat.reduceSub,Nat.reduceMul,Int.reduceEq,Int.reduceLT,Int.reduceLE,Int.reduceSub,Int.reduceAdd,Int.reduceToNat,reduceCtorEq,Int.reduceNeg,TF3,TF4,TF9,TF25,TF26,TF28,TF30,TF34,TF47,TF48,TF55,TF72,TF114,tcC,hl',TF48,TF26]);apply z;clear z K)
    refine tI ?_
    (refine sQ q1gx fun K z=>?_;simp -implicitDefEqProofs only [EV,forall_const,implies_true,Nat.reduceAdd,Nat.reduceEqDiff,Nat.reduceBEq,Nat.reduceLeDiff,Nat.reduceSub,Nat.reduceMul,Int.reduceEq,Int.reduceLT,Int.reduceLE,Int.reduceSub,Int.reduceAdd,Int.reduceToNat,reduceCtorEq,Int.reduceNeg,TF3,TF4,TF9,TF25,TF26,TF28,TF30,TF34,TF47,TF48,TF55,TF72,TF114,tcC];refine⟨_,.inl ⟨_,rfl,hnoE,rfl⟩,?_⟩;(try simp -implicitDefEqProofs only [EV,forall_const,implies_true,Nat.reduceAdd,Nat.reduceEqDiff,Nat.reduceBEq,Nat.reduceLeDiff,Nat.reduceSub,Nat.reduceMul,Int.reduceEq,Int.reduceLT,Int.reduceLE,Int.reduceSub,Int.reduceAdd,Int.reduceToNat,reduceCtorEq,Int.reduceNeg,TF3,TF4,TF9,TF25,TF26,TF28,TF30,TF34,TF47,TF48,TF55,TF72,TF114,tcC]);apply z;clear z K)
    exact aR
   rw [if_neg (by rw [hs];simp [hl])] at hR
   have hl':((fieldsT c.p e.type).length:Int)=(e.kids.length:Int):=by omega
   have hki:=ok_kids16 c e.kids hkl (fieldsT c.p e.type) hl (fieldsT_Sm hc.p he.type) [] [] (by simp) hF
   have hmm:((fieldsT c.p e.type).map fun f=>f.type.subst [] [])=(fieldsT c.p e.type).map (·.type):=List.map_congr_left fun f _=>subst_nil f.type
   rw [hmm] at hki
   subst hR
   generalize kidsT c ((fieldsT c.p e.type).map (·.type)) e.kids (e.kids.map (typeE c))=r at *
   refine sK fun K2 u2=>?_
   (refine sG q1gx [] 15 [] fun K z=>?_;simp -implicitDefEqProofs only [EV,forall_const,implies_true,Nat.reduceAdd,Nat.reduceEqDiff,Nat.reduceBEq,Nat.reduceLeDiff,Nat.reduceSub,Nat.reduceMul,Int.reduceEq,Int.reduceLT,Int.reduceLE,Int.reduceSub,Int.reduceAdd,Int.reduceToNat,reduceCtorEq,Int.reduceNeg,TF3,TF4,TF9,TF25,TF26,TF28,TF30,TF34,TF47,TF48,TF55,TF72,TF114,tcC,hl',TF48,TF26];refine⟨_,.inl ⟨_,rfl,hst,rfl⟩,?_⟩;(try simp -implicitDefEqProofs only [EV,forall_const,implies_true,Nat.reduceAdd,Nat.reduceEqDiff,Nat.reduceBEq,Nat.reduceLeDiff,Nat.reduceSub,Nat.reduceMul,Int.reduceEq,Int.reduceLT,Int.reduceLE,Int.reduceSub,Int.reduceAdd,Int.reduceToNat,reduceCtorEq,Int.reduceNeg,TF3,TF4,TF9,TF25,TF26,TF28,TF30,TF34,TF47,TF48,TF55,TF72,TF114,tcC,hl',TF48,TF26]);refine⟨_,.inl ⟨_,rfl,hfi,rfl⟩,?_⟩;(try simp -implicitDefEqProofs only [EV,forall_const,implies_true,Nat.reduceAdd,Nat.reduceEqDiff,Nat.reduceBEq,Nat.reduceLeDiff,Nat.reduceSub,Nat.reduceMul,Int.reduceEq,Int.reduceLT,Int.reduceLE,Int.reduceSub,Int.reduceAdd,Int.reduceToNat,reduceCtorEq,Int.reduceNeg,TF3,TF4,TF9,TF25,TF26,TF28,TF30,TF34,TF47,TF48,TF55,TF72,TF114,tcC,hl',TF48,TF26]);apply z;clear z K)
   refine kI u2 ?_
   clear u2 K2
   (refine sG q1gx [] 11 [] fun K z=>?_;simp -implicitDefEqProofs only [EV,forall_const,implies_true,Nat.reduceAdd,Nat.reduceEqDiff,Nat.reduceBEq,Nat.reduceLeDiff,Nat.reduceSub,Nat.reduceMul,Int.reduceEq,Int.reduceLT,Int.reduceLE,Int.reduceSub,Int.reduceAdd,Int.reduceToNat,reduceCtorEq,Int.reduceNeg,TF3,TF4,TF9,TF25,TF26,TF28,TF30,TF34,TF47,TF48,TF55,TF72,TF114,tcC];refine⟨_,.inl ⟨_,rfl,hfi,rfl⟩,?_⟩;(try simp -implicitDefEqProofs only [EV,forall_const,implies_true,Nat.reduceAdd,Nat.reduceEqDiff,Nat.reduceBEq,Nat.reduceLeDiff,Nat.reduceSub,Nat.reduceMul,Int.reduceEq,Int.reduceLT,Int.reduceLE,Int.reduceSub,Int.reduceAdd,Int.reduceToNat,reduceCtorEq,Int.reduceNeg,TF3,TF4,TF9,TF25,TF26,TF28,TF30,TF34,TF47,TF48,TF55,TF72,TF114,tcC]);refine⟨_,.inl ⟨_,rfl,hki,rfl⟩,?_⟩;(try simp -implicitDefEqProofs only [EV,forall_const,implies_true,Nat.reduceAdd,Nat.reduceEqDiff,Nat.reduceBEq,Nat.reduceLeDiff,Nat.reduceSub,Nat.reduceMul,Int.reduceEq,Int.reduceLT,Int.reduceLE,Int.reduceSub,Int.reduceAdd,Int.reduceToNat,reduceCtorEq,Int.reduceNeg,TF3,TF4,TF9,TF25,TF26,TF28,TF30,TF34,TF47,TF48,TF55,TF72,TF114,tcC]);apply z;clear z K)
   exact aR
 rw [if_neg k3] at hR
 refine sK fun K1 u1=>?_
 (refine sQ q1gx fun K z=>?_;simp -implicitDefEqProofs only [EV,forall_const,implies_true,Nat.reduceAdd,Nat.reduceEqDiff,Nat.reduceBEq,Nat.reduceLeDiff,Nat.reduceSub,Nat.reduceMul,Int.reduceEq,Int.reduceLT,Int.reduceLE,Int.reduceSub,Int.reduceAdd,Int.reduceToNat,reduceCtorEq,Int.reduceNeg,TF3,TF4,TF9,TF25,TF26,TF28,TF30,TF34,TF47,TF48,TF55,TF72,TF114,tcC,k3];apply z;clear z K)
 refine kI u1 ?_
 clear u1 K1
 by_cases k2:e.kind≠2∧e.kind≠4∧e.kind≠5
 ·rw [if_pos k2] at hR
  subst hR
  obtain⟨n2,n4,n5⟩:=k2
  refine sK fun K1 u1=>?_
  (refine sQ q1gx fun K z=>?_;simp -implicitDefEqProofs only [EV,forall_const,implies_true,Nat.reduceAdd,Nat.reduceEqDiff,Nat.reduceBEq,Nat.reduceLeDiff,Nat.reduceSub,Nat.reduceMul,Int.reduceEq,Int.reduceLT,Int.reduceLE,Int.reduceSub,Int.reduceAdd,Int.reduceToNat,reduceCtorEq,Int.reduceNeg,TF3,TF4,TF9,TF25,TF26,TF28,TF30,TF34,TF47,TF48,TF55,TF72,TF114,tcC,n2,n4,n5];apply z;clear z K)
  refine tI ?_
  (refine sQ q1gx fun K z=>?_;simp -implicitDefEqProofs only [EV,forall_const,implies_true,Nat.reduceAdd,Nat.reduceEqDiff,Nat.reduceBEq,Nat.reduceLeDiff,Nat.reduceSub,Nat.reduceMul,Int.reduceEq,Int.reduceLT,Int.reduceLE,Int.reduceSub,Int.reduceAdd,Int.reduceToNat,reduceCtorEq,Int.reduceNeg,TF3,TF4,TF9,TF25,TF26,TF28,TF30,TF34,TF47,TF48,TF55,TF72,TF114,tcC];refine⟨_,.inl ⟨_,rfl,hnoE,rfl⟩,?_⟩;(try simp -implicitDefEqProofs only [EV,forall_const,implies_true,Nat.reduceAdd,Nat.reduceEqDiff,Nat.reduceBEq,Nat.reduceLeDiff,Nat.reduceSub,Nat.reduceMul,Int.reduceEq,Int.reduceLT,Int.reduceLE,Int.reduceSub,Int.reduceAdd,Int.reduceToNat,reduceCtorEq,Int.reduceNeg,TF3,TF4,TF9,TF25,TF26,TF28,TF30,TF34,TF47,TF48,TF55,TF72,TF114,tcC]);apply z;clear z K)
  exact aR
 rw [if_neg k2] at hR
 have kk:e.kind=2∨e.kind=4∨e.kind=5:=by omega
 have hcs:e.kids=[]∨∃ v vs,e.kids=v::vs:=by
  cases e.kids with
  | nil=>exact .inl rfl
  | cons v vs=>exact .inr ⟨v,vs,rfl⟩
 rcases hcs with hks | ⟨v,vs,hks⟩
 ·rw [hks] at hR
  simp only [List.map_nil] at hR
  subst hR
  have hl0:(e.kids.length:Int)=0:=by rw [hks];rfl
  rcases kk with k | k | k
  ·have e2:=decide_eq_true k
   refine sK fun K1 u1=>?_
   (refine sQ q1gx fun K z=>?_;simp -implicitDefEqProofs only [EV,forall_const,implies_true,Nat.reduceAdd,Nat.reduceEqDiff,Nat.reduceBEq,Nat.reduceLeDiff,Nat.reduceSub,Nat.reduceMul,Int.reduceEq,Int.reduceLT,Int.reduceLE,Int.reduceSub,Int.reduceAdd,Int.reduceToNat,reduceCtorEq,Int.reduceNeg,TF3,TF4,TF9,TF25,TF26,TF28,TF30,TF34,TF47,TF48,TF55,TF72,TF114,tcC,decide_not,e2,hl0];apply z;clear z K)
   refine tI ?_
   (refine sQ q1gx fun K z=>?_;simp -implicitDefEqProofs only [EV,forall_const,implies_true,Nat.reduceAdd,Nat.reduceEqDiff,Nat.reduceBEq,Nat.reduceLeDiff,Nat.reduceSub,Nat.reduceMul,Int.reduceEq,Int.reduceLT,Int.reduceLE,Int.reduceSub,Int.reduceAdd,Int.reduceToNat,reduceCtorEq,Int.reduceNeg,TF3,TF4,TF9,TF25,TF26,TF28,TF30,TF34,TF47,TF48,TF55,TF72,TF114,tcC];refine⟨_,.inl ⟨_,rfl,hnoE,rfl⟩,?_⟩;(try simp -implicitDefEqProofs only [EV,forall_const,implies_true,Nat.reduceAdd,Nat.reduceEqDiff,Nat.reduceBEq,Nat.reduceLeDiff,Nat.reduceSub,Nat.reduceMul,Int.reduceEq,Int.reduceLT,Int.reduceLE,Int.reduceSub,Int.reduceAdd,Int.reduceToNat,reduceCtorEq,Int.reduceNeg,TF3,TF4,TF9,TF25,TF26,TF28,TF30,TF34,TF47,TF48,TF55,TF72,TF114,tcC]);apply z;clear z K)
   exact aR
  ·have n2:¬ e.kind=2:=by omega
   have e4:=decide_eq_true k
   refine sK fun K1 u1=>?_
   (refine sQ q1gx fun K z=>?_;simp -implicitDefEqProofs only [EV,forall_const,implies_true,Nat.reduceAdd,Nat.reduceEqDiff,Nat.reduceBEq,Nat.reduceLeDiff,Nat.reduceSub,Nat.reduceMul,Int.reduceEq,Int.reduceLT,Int.reduceLE,Int.reduceSub,Int.reduceAdd,Int.reduceToNat,reduceCtorEq,Int.reduceNeg,TF3,TF4,TF9,TF25,TF26,TF28,TF30,TF34,TF47,TF48,TF55,TF72,TF114,tcC,decide_not,n2,e4,hl0];apply z;clear z K)
   refine tI ?_
   (refine sQ q1gx fun K z=>?_;simp -implicitDefEqProofs only [EV,forall_const,implies_true,Nat.reduceAdd,Nat.reduceEqDiff,Nat.reduceBEq,Nat.reduceLeDiff,Nat.reduceSub,Nat.reduceMul,Int.reduceEq,Int.reduceLT,Int.reduceLE,Int.reduceSub,Int.reduceAdd,Int.reduceToNat,reduceCtorEq,Int.reduceNeg,TF3,TF4,TF9,TF25,TF26,TF28,TF30,TF34,TF47,TF48,TF55,TF72,TF114,tcC];refine⟨_,.inl ⟨_,rfl,hnoE,rfl⟩,?_⟩;(try simp -implicitDefEqProofs only [EV,forall_const,implies_true,Nat.reduceAdd,Nat.reduceEqDiff,Nat.reduceBEq,Nat.reduceLeDiff,Nat.reduceSub,Nat.reduceMul,Int.reduceEq,Int.reduceLT,Int.reduceLE,Int.reduceSub,Int.reduceAdd,Int.reduceToNat,reduceCtorEq,Int.reduceNeg,TF3,TF4,TF9,TF25,TF26,TF28,TF30,TF34,TF47,TF48,TF55,TF72,TF114,tcC]);apply z;clear z K)
   exact aR
  ·have n2:¬ e.kind=2:=by omega
   have n4:¬ e.kind=4:=by omega
   have e5:=decide_eq_true k
   refine sK fun K1 u1=>?_
   (refine sQ q1gx fun K z=>?_;simp -implicitDefEqProofs only [EV,forall_const,implies_true,Nat.reduceAdd,Nat.reduceEqDiff,Nat.reduceBEq,Nat.reduceLeDiff,Nat.reduceSub,Nat.reduceMul,Int.reduceEq,Int.reduceLT,Int.reduceLE,Int.reduceSub,Int.reduceAdd,Int.reduceToNat,reduceCtorEq,Int.reduceNeg,TF3,TF4,TF9,TF25,TF26,TF28,TF30,TF34,TF47,TF48,TF55,TF72,TF114,tcC,decide_not,n2,n4,e5,hl0];apply z;clear z K)
   refine tI ?_
   (refine sQ q1gx fun K z=>?_;simp -implicitDefEqProofs only [EV,forall_const,implies_true,Nat.reduceAdd,Nat.reduceEqDiff,Nat.reduceBEq,Nat.reduceLeDiff,Nat.reduceSub,Nat.reduceMul,Int.reduceEq,Int.reduceLT,Int.reduceLE,Int.reduceSub,Int.reduceAdd,Int.reduceToNat,reduceCtorEq,Int.reduceNeg,TF3,TF4,TF9,TF25,TF26,TF28,TF30,TF34,TF47,TF48,TF55,TF72,TF114,tcC];refine⟨_,.inl ⟨_,rfl,hnoE,rfl⟩,?_⟩;(try simp -implicitDefEqProofs only [EV,forall_const,implies_true,Nat.reduceAdd,Nat.reduceEqDiff,Nat.reduceBEq,Nat.reduceLeDiff,Nat.reduceSub,Nat.reduceMul,Int.reduceEq,Int.reduceLT,Int.reduceLE,Int.reduceSub,Int.reduceAdd,Int.reduceToNat,reduceCtorEq,Int.reduceNeg,TF3,TF4,TF9,TF25,TF26,TF28,TF30,TF34,TF47,TF48,TF55,TF72,TF114,tcC]);apply z;clear z K)
   exact aR
 ·have hl0:¬ (e.kids.length:Int)=0:=by rw [hks];simp only [List.length_cons];omega
  have h0:e.kids[0]? = some v:=by rw [hks];rfl
  have hvm:v∈e.kids:=by rw [hks];simp
  have hT:=ih v hvm (he.kids.2 v hvm)
  have hzs:=typeE_Sm hc v (he.kids.2 v hvm)
  have hck:=ok_RCheck c.p hc.p c.env hc.el hc.env e.type he.type
  have hcall:=ok_call16 c hc e he (typeE c v).1 hzs (by rw [hks];simp) fun k hk w hw=>hF k (List.mem_of_mem_tail hk) w hw
  have htl:e.kids.tail=vs:=by rw [hks];rfl
  rw [htl] at hcall
  rw [hks] at hR
  clear hks
  simp only [List.map_cons] at hR
  generalize typeE c v=z at *
  obtain⟨x,⟨q,b,lg⟩⟩:=z
  simp only at hR hzs hcall
  have hfd:=fun f:Param=>ok_found16 f.type ⟨q,b,lg⟩
  rcases kk with k | k | k
  ·have e2:=decide_eq_true k
   refine sK fun K1 u1=>?_
   (refine sQ q1gx fun K z=>?_;simp -implicitDefEqProofs only [EV,forall_const,implies_true,Nat.reduceAdd,Nat.reduceEqDiff,Nat.reduceBEq,Nat.reduceLeDiff,Nat.reduceSub,Nat.reduceMul,Int.reduceEq,Int.reduceLT,Int.reduceLE,Int.reduceSub,Int.reduceAdd,Int.reduceToNat,reduceCtorEq,Int.reduceNeg,TF3,TF4,TF9,TF25,TF26,TF28,TF30,TF34,TF47,TF48,TF55,TF72,TF114,tcC,decide_not,e2,hl0];apply z;clear z K)
   refine kI u1 ?_
   clear u1 K1
   (refine sG q1gx [] 12 [⟨[],[],[9,10],[9,10]⟩,⟨[],[],[9,10],[9,10]⟩,⟨[],[],[9,10],[9,10]⟩,⟨[],[],[9,10],[9,10]⟩,⟨[],[],[9,10],[9,10]⟩,⟨[],[],[9,10],[9,10]⟩,⟨[],[],[9,10],[9,10]⟩,⟨[],[],[9,10],[9,10]⟩,⟨[],[],[9,10],[9,10]⟩,⟨[9],[9],[10],[10]⟩,⟨[10],[10],[9],[9]⟩,⟨[9],[],[],[]⟩] fun K z=>?_;simp -implicitDefEqProofs only [EV,forall_const,implies_true,Nat.reduceAdd,Nat.reduceEqDiff,Nat.reduceBEq,Nat.reduceLeDiff,Nat.reduceSub,Nat.reduceMul,Int.reduceEq,Int.reduceLT,Int.reduceLE,Int.reduceSub,Int.reduceAdd,Int.reduceToNat,reduceCtorEq,Int.reduceNeg,TF3,TF4,TF9,TF25,TF26,TF28,TF30,TF34,TF47,TF48,TF55,TF72,TF114,tcC];refine⟨_,exR_get h0,rfl,?_⟩;(try simp -implicitDefEqProofs only [EV,forall_const,implies_true,Nat.reduceAdd,Nat.reduceEqDiff,Nat.reduceBEq,Nat.reduceLeDiff,Nat.reduceSub,Nat.reduceMul,Int.reduceEq,Int.reduceLT,Int.reduceLE,Int.reduceSub,Int.reduceAdd,Int.reduceToNat,reduceCtorEq,Int.reduceNeg,TF3,TF4,TF9,TF25,TF26,TF28,TF30,TF34,TF47,TF48,TF55,TF72,TF114,tcC]);refine⟨_,.inl ⟨_,rfl,hT,rfl⟩,?_⟩;(try simp -implicitDefEqProofs only [EV,forall_const,implies_true,Nat.reduceAdd,Nat.reduceEqDiff,Nat.reduceBEq,Nat.reduceLeDiff,Nat.reduceSub,Nat.reduceMul,Int.reduceEq,Int.reduceLT,Int.reduceLE,Int.reduceSub,Int.reduceAdd,Int.reduceToNat,reduceCtorEq,Int.reduceNeg,TF3,TF4,TF9,TF25,TF26,TF28,TF30,TF34,TF47,TF48,TF55,TF72,TF114,tcC]);apply z;clear z K)
   (refine AWp.freeze 9 rfl rfl ?_;refine AWp.freeze 10 rfl rfl (wk [(2,.dptr (tcC c) 0),(3,.dptr (exC e) 0),(4,.box 4 0),(5,.box 5 0),(9,.dptr (tyC x) 0),(10,.dptr [.int .i64 q,.bool b,.bool lg] 0)] [(4,ty0C),(5,rs0)] ?_))
   cases b with
   | true =>
    rw [if_pos rfl] at hR
    subst hR
    refine kR q1gx fun K1 u1=>?_
    refine tI ?_
    (refine sG q1gx [] 3 [⟨[],[],[],[]⟩,⟨[],[],[4],[]⟩,⟨[4],[],[],[]⟩] fun K z=>?_;refine ev ?_;apply z;clear z K)
    exact aR
   | false =>
    rw [if_neg (by simp),if_pos k] at hR
    rw [hR] at hcall
    obtain⟨rt,rr⟩:=R
    refine kR q1gx fun K1 u1=>?_
    refine kI u1 ?_
    clear u1 K1
    refine sK fun K1 u1=>?_
    (refine sQ q1gx fun K z=>?_;simp -implicitDefEqProofs only [EV,forall_const,implies_true,Nat.reduceAdd,Nat.reduceEqDiff,Nat.reduceBEq,Nat.reduceLeDiff,Nat.reduceSub,Nat.reduceMul,Int.reduceEq,Int.reduceLT,Int.reduceLE,Int.reduceSub,Int.reduceAdd,Int.reduceToNat,reduceCtorEq,Int.reduceNeg,TF3,TF4,TF9,TF25,TF26,TF28,TF30,TF34,TF47,TF48,TF55,TF72,TF114,tcC,e2];apply z;clear z K)
    refine tI ?_
    (refine sQ q1gx fun K z=>?_;simp -implicitDefEqProofs only [EV,forall_const,implies_true,Nat.reduceAdd,Nat.reduceEqDiff,Nat.reduceBEq,Nat.reduceLeDiff,Nat.reduceSub,Nat.reduceMul,Int.reduceEq,Int.reduceLT,Int.reduceLE,Int.reduceSub,Int.reduceAdd,Int.reduceToNat,reduceCtorEq,Int.reduceNeg,TF3,TF4,TF9,TF25,TF26,TF28,TF30,TF34,TF47,TF48,TF55,TF72,TF114,tcC];refine⟨_,.inl ⟨_,rfl,hcall,rfl⟩,?_⟩;(try simp -implicitDefEqProofs only [EV,forall_const,implies_true,Nat.reduceAdd,Nat.reduceEqDiff,Nat.reduceBEq,Nat.reduceLeDiff,Nat.reduceSub,Nat.reduceMul,Int.reduceEq,Int.reduceLT,Int.reduceLE,Int.reduceSub,Int.reduceAdd,Int.reduceToNat,reduceCtorEq,Int.reduceNeg,TF3,TF4,TF9,TF25,TF26,TF28,TF30,TF34,TF47,TF48,TF55,TF72,TF114,tcC]);apply z;clear z K)
    exact aR
  ·have n2:¬ e.kind=2:=by omega
   have e4:=decide_eq_true k
   refine sK fun K1 u1=>?_
   (refine sQ q1gx fun K z=>?_;simp -implicitDefEqProofs only [EV,forall_const,implies_true,Nat.reduceAdd,Nat.reduceEqDiff,Nat.reduceBEq,Nat.reduceLeDiff,Nat.reduceSub,Nat.reduceMul,Int.reduceEq,Int.reduceLT,Int.reduceLE,Int.reduceSub,Int.reduceAdd,Int.reduceToNat,reduceCtorEq,Int.reduceNeg,TF3,TF4,TF9,TF25,TF26,TF28,TF30,TF34,TF47,TF48,TF55,TF72,TF114,tcC,decide_not,n2,e4,hl0];apply z;clear z K)
   refine kI u1 ?_
   clear u1 K1
   (refine sG q1gx [] 12 [⟨[],[],[9,10],[9,10]⟩,⟨[],[],[9,10],[9,10]⟩,⟨[],[],[9,10],[9,10]⟩,⟨[],[],[9,10],[9,10]⟩,⟨[],[],[9,10],[9,10]⟩,⟨[],[],[9,10],[9,10]⟩,⟨[],[],[9,10],[9,10]⟩,⟨[],[],[9,10],[9,10]⟩,⟨[],[],[9,10],[9,10]⟩,⟨[9],[9],[10],[10]⟩,⟨[10],[10],[9],[9]⟩,⟨[9],[],[],[]⟩] fun K z=>?_;simp -implicitDefEqProofs only [EV,forall_const,implies_true,Nat.reduceAdd,Nat.reduceEqDiff,Nat.reduceBEq,Nat.reduceLeDiff,Nat.reduceSub,Nat.reduceMul,Int.reduceEq,Int.reduceLT,Int.reduceLE,Int.reduceSub,Int.reduceAdd,Int.reduceToNat,reduceCtorEq,Int.reduceNeg,TF3,TF4,TF9,TF25,TF26,TF28,TF30,TF34,TF47,TF48,TF55,TF72,TF114,tcC];refine⟨_,exR_get h0,rfl,?_⟩;(try simp -implicitDefEqProofs only [EV,forall_const,implies_true,Nat.reduceAdd,Nat.reduceEqDiff,Nat.reduceBEq,Nat.reduceLeDiff,Nat.reduceSub,Nat.reduceMul,Int.reduceEq,Int.reduceLT,Int.reduceLE,Int.reduceSub,Int.reduceAdd,Int.reduceToNat,reduceCtorEq,Int.reduceNeg,TF3,TF4,TF9,TF25,TF26,TF28,TF30,TF34,TF47,TF48,TF55,TF72,TF114,tcC]);refine⟨_,.inl ⟨_,rfl,hT,rfl⟩,?_⟩;(try simp -implicitDefEqProofs only [EV,forall_const,implies_true,Nat.reduceAdd,Nat.reduceEqDiff,Nat.reduceBEq,Nat.reduceLeDiff,Nat.reduceSub,Nat.reduceMul,Int.reduceEq,Int.reduceLT,Int.reduceLE,Int.reduceSub,Int.reduceAdd,Int.reduceToNat,reduceCtorEq,Int.reduceNeg,TF3,TF4,TF9,TF25,TF26,TF28,TF30,TF34,TF47,TF48,TF55,TF72,TF114,tcC]);apply z;clear z K)
   (refine AWp.freeze 9 rfl rfl ?_;refine AWp.freeze 10 rfl rfl (wk [(2,.dptr (tcC c) 0),(3,.dptr (exC e) 0),(4,.box 4 0),(5,.box 5 0),(9,.dptr (tyC x) 0),(10,.dptr [.int .i64 q,.bool b,.bool lg] 0)] [(4,ty0C),(5,rs0)] ?_))
   cases b with
   | true =>
    rw [if_pos rfl] at hR
    subst hR
    refine kR q1gx fun K1 u1=>?_
    refine tI ?_
    (refine sG q1gx [] 3 [⟨[],[],[],[]⟩,⟨[],[],[4],[]⟩,⟨[4],[],[],[]⟩] fun K z=>?_;refine ev ?_;apply z;clear z K)
    exact aR
   | false =>
    rw [if_neg (by simp),if_neg n2,if_pos k] at hR
    refine kR q1gx fun K1 u1=>?_
    refine kI u1 ?_
    clear u1 K1
    refine sK fun K1 u1=>?_
    (refine sQ q1gx fun K z=>?_;simp -implicitDefEqProofs only [EV,forall_const,implies_true,Nat.reduceAdd,Nat.reduceEqDiff,Nat.reduceBEq,Nat.reduceLeDiff,Nat.reduceSub,Nat.reduceMul,Int.reduceEq,Int.reduceLT,Int.reduceLE,Int.reduceSub,Int.reduceAdd,Int.reduceToNat,reduceCtorEq,Int.reduceNeg,TF3,TF4,TF9,TF25,TF26,TF28,TF30,TF34,TF47,TF48,TF55,TF72,TF114,tcC,n2];apply z;clear z K)
    refine kI u1 ?_
    clear u1 K1
    refine sK fun K1 u1=>?_
    (refine sQ q1gx fun K z=>?_;simp -implicitDefEqProofs only [EV,forall_const,implies_true,Nat.reduceAdd,Nat.reduceEqDiff,Nat.reduceBEq,Nat.reduceLeDiff,Nat.reduceSub,Nat.reduceMul,Int.reduceEq,Int.reduceLT,Int.reduceLE,Int.reduceSub,Int.reduceAdd,Int.reduceToNat,reduceCtorEq,Int.reduceNeg,TF3,TF4,TF9,TF25,TF26,TF28,TF30,TF34,TF47,TF48,TF55,TF72,TF114,tcC,e4];apply z;clear z K)
    refine tI ?_
    have hst:=ok_isStruct16 c hc x
    rcases Bool.eq_false_or_eq_true (structT c x) with hs | hs
    rotate_left
    ·obtain rfl:R=noT e.pos:=by rw [← hR];unfold fieldT;rw [if_pos hs]
     rw [hs] at hst
     refine sK fun K2 u2=>?_
     (refine sQ q1gx fun K z=>?_;simp -implicitDefEqProofs only [EV,forall_const,implies_true,Nat.reduceAdd,Nat.reduceEqDiff,Nat.reduceBEq,Nat.reduceLeDiff,Nat.reduceSub,Nat.reduceMul,Int.reduceEq,Int.reduceLT,Int.reduceLE,Int.reduceSub,Int.reduceAdd,Int.reduceToNat,reduceCtorEq,Int.reduceNeg,TF3,TF4,TF9,TF25,TF26,TF28,TF30,TF34,TF47,TF48,TF55,TF72,TF114,tcC];refine⟨_,.inl ⟨_,rfl,hst,rfl⟩,?_⟩;(try simp -implicitDefEqProofs only [EV,forall_const,implies_true,Nat.reduceAdd,Nat.reduceEqDiff,Nat.reduceBEq,Nat.reduceLeDiff,Nat.reduceSub,Nat.reduceMul,Int.reduceEq,Int.reduceLT,Int.reduceLE,Int.reduceSub,Int.reduceAdd,Int.reduceToNat,reduceCtorEq,Int.reduceNeg,TF3,TF4,TF9,TF25,TF26,TF28,TF30,TF34,TF47,TF48,TF55,TF72,TF114,tcC]);apply z;clear z K)
     refine tI ?_
     (refine sQ q1gx fun K z=>?_;simp -implicitDefEqProofs only [EV,forall_const,implies_true,Nat.reduceAdd,Nat.reduceEqDiff,Nat.reduceBEq,Nat.reduceLeDiff,Nat.reduceSub,Nat.reduceMul,Int.reduceEq,Int.reduceLT,Int.reduceLE,Int.reduceSub,Int.reduceAdd,Int.reduceToNat,reduceCtorEq,Int.reduceNeg,TF3,TF4,TF9,TF25,TF26,TF28,TF30,TF34,TF47,TF48,TF55,TF72,TF114,tcC];refine⟨_,.inl ⟨_,rfl,hnoE,rfl⟩,?_⟩;(try simp -implicitDefEqProofs only [EV,forall_const,implies_true,Nat.reduceAdd,Nat.reduceEqDiff,Nat.reduceBEq,Nat.reduceLeDiff,Nat.reduceSub,Nat.reduceMul,Int.reduceEq,Int.reduceLT,Int.reduceLE,Int.reduceSub,Int.reduceAdd,Int.reduceToNat,reduceCtorEq,Int.reduceNeg,TF3,TF4,TF9,TF25,TF26,TF28,TF30,TF34,TF47,TF48,TF55,TF72,TF114,tcC]);apply z;clear z K)
     exact aR
    have hfi:=ok_RFields c.p hc.p x hzs (structT_inst hs)
    have hfl:=fieldsT_len hc.p x
    have hneg:=@fieldT_neg c e x ⟨q,false,lg⟩ hs
    have hpos:∀ (j:Nat) (f:Param),fieldI (fieldsT c.p x) e.name=j→(fieldsT c.p x)[j]? = some f→fieldT c e x ⟨q,false,lg⟩=foundT (f.type,⟨q,false,lg⟩):=fun j f h1 h2=>by
     unfold fieldT;rw [if_neg (by rw [hs];simp),h1,Int.toNat_natCast,h2];simp only;rw [if_neg (by omega)]
    rw [hs] at hst
    generalize fieldsT c.p x=L at *
    refine sK fun K2 u2=>?_
    (refine sQ q1gx fun K z=>?_;simp -implicitDefEqProofs only [EV,forall_const,implies_true,Nat.reduceAdd,Nat.reduceEqDiff,Nat.reduceBEq,Nat.reduceLeDiff,Nat.reduceSub,Nat.reduceMul,Int.reduceEq,Int.reduceLT,Int.reduceLE,Int.reduceSub,Int.reduceAdd,Int.reduceToNat,reduceCtorEq,Int.reduceNeg,TF3,TF4,TF9,TF25,TF26,TF28,TF30,TF34,TF47,TF48,TF55,TF72,TF114,tcC];refine⟨_,.inl ⟨_,rfl,hst,rfl⟩,?_⟩;(try simp -implicitDefEqProofs only [EV,forall_const,implies_true,Nat.reduceAdd,Nat.reduceEqDiff,Nat.reduceBEq,Nat.reduceLeDiff,Nat.reduceSub,Nat.reduceMul,Int.reduceEq,Int.reduceLT,Int.reduceLE,Int.reduceSub,Int.reduceAdd,Int.reduceToNat,reduceCtorEq,Int.reduceNeg,TF3,TF4,TF9,TF25,TF26,TF28,TF30,TF34,TF47,TF48,TF55,TF72,TF114,tcC]);apply z;clear z K)
    refine kI u2 ?_
    clear u2 K2
    (refine sQ q1gx fun K z=>?_;simp -implicitDefEqProofs only [EV,forall_const,implies_true,Nat.reduceAdd,Nat.reduceEqDiff,Nat.reduceBEq,Nat.reduceLeDiff,Nat.reduceSub,Nat.reduceMul,Int.reduceEq,Int.reduceLT,Int.reduceLE,Int.reduceSub,Int.reduceAdd,Int.reduceToNat,reduceCtorEq,Int.reduceNeg,TF3,TF4,TF9,TF25,TF26,TF28,TF30,TF34,TF47,TF48,TF55,TF72,TF114,tcC];refine⟨_,.inl ⟨_,rfl,hfi,rfl⟩,?_⟩;(try simp -implicitDefEqProofs only [EV,forall_const,implies_true,Nat.reduceAdd,Nat.reduceEqDiff,Nat.reduceBEq,Nat.reduceLeDiff,Nat.reduceSub,Nat.reduceMul,Int.reduceEq,Int.reduceLT,Int.reduceLE,Int.reduceSub,Int.reduceAdd,Int.reduceToNat,reduceCtorEq,Int.reduceNeg,TF3,TF4,TF9,TF25,TF26,TF28,TF30,TF34,TF47,TF48,TF55,TF72,TF114,tcC]);apply z;clear z K)
    refine sK fun K2 u2=>?_
    (refine sQ q1gx fun K z=>?_;simp -implicitDefEqProofs only [EV,forall_const,implies_true,Nat.reduceAdd,Nat.reduceEqDiff,Nat.reduceBEq,Nat.reduceLeDiff,Nat.reduceSub,Nat.reduceMul,Int.reduceEq,Int.reduceLT,Int.reduceLE,Int.reduceSub,Int.reduceAdd,Int.reduceToNat,reduceCtorEq,Int.reduceNeg,TF3,TF4,TF9,TF25,TF26,TF28,TF30,TF34,TF47,TF48,TF55,TF72,TF114,tcC];apply z;clear z K)
    refine AWp.block (AWp.forIdx L (X:=Unit) (fun j _=>[(2,.dptr (tcC c) 0),(3,.dptr (exC e) 0),(4,.box 4 0),(5,.box 5 0),(10,.dptr [.int .i64 q,.bool false,.bool lg] 0),(11,.d (.slice (paR L))),(12,intV j)]) (fun _ _=>[(4,ty0C),(5,rs0)])
     (fun j _=>∀ y,y∈L.take j→(fun f:Param=>decide (f.name=e.name)) y=false) () (by simp) (by simp [sle,vle,sget,tcC,exC]) (by simp [ble,bget,exC,tyC,foC,paC,siC,deC,prC]) ?_ ?_)
    rotate_left
    ·intro j _ d hd hmem dp tk hlt hI
     refine sK fun K3 u3=>?_
     (refine sQ q1gx fun K z=>?_;simp -implicitDefEqProofs only [EV,forall_const,implies_true,Nat.reduceAdd,Nat.reduceEqDiff,Nat.reduceBEq,Nat.reduceLeDiff,Nat.reduceSub,Nat.reduceMul,Int.reduceEq,Int.reduceLT,Int.reduceLE,Int.reduceSub,Int.reduceAdd,Int.reduceToNat,reduceCtorEq,Int.reduceNeg,TF3,TF4,TF9,TF25,TF26,TF28,TF30,TF34,TF47,TF48,TF55,TF72,TF114,tcC,hlt];apply z;clear z K)
     refine gI u3 ?_
     clear u3 K3
     refine sK fun K3 u3=>?_
     refine AWp.block ?_
     by_cases hn:d.name=e.name
     ·have hix:fieldI L e.name=j:=idxF_some hd (by simp [hn]) hI
      have hfd:=hfd d
      rw [← hpos j d hix hd,hR] at hfd
      obtain⟨rt,rr⟩:=R
      have dn:=decide_eq_true hn
      (refine sG q1gx [] 7 [] fun K z=>?_;simp -implicitDefEqProofs only [EV,forall_const,implies_true,Nat.reduceAdd,Nat.reduceEqDiff,Nat.reduceBEq,Nat.reduceLeDiff,Nat.reduceSub,Nat.reduceMul,Int.reduceEq,Int.reduceLT,Int.reduceLE,Int.reduceSub,Int.reduceAdd,Int.reduceToNat,reduceCtorEq,Int.reduceNeg,TF3,TF4,TF9,TF25,TF26,TF28,TF30,TF34,TF47,TF48,TF55,TF72,TF114,tcC,dn];refine⟨by omega,_,paR_get hd,rfl,?_⟩;(try simp -implicitDefEqProofs only [EV,forall_const,implies_true,Nat.reduceAdd,Nat.reduceEqDiff,Nat.reduceBEq,Nat.reduceLeDiff,Nat.reduceSub,Nat.reduceMul,Int.reduceEq,Int.reduceLT,Int.reduceLE,Int.reduceSub,Int.reduceAdd,Int.reduceToNat,reduceCtorEq,Int.reduceNeg,TF3,TF4,TF9,TF25,TF26,TF28,TF30,TF34,TF47,TF48,TF55,TF72,TF114,tcC,dn]);apply z;clear z K)
      refine AWp.condT rfl ?_
      (refine sG q1gx [] 9 [] fun K z=>?_;simp -implicitDefEqProofs only [EV,forall_const,implies_true,Nat.reduceAdd,Nat.reduceEqDiff,Nat.reduceBEq,Nat.reduceLeDiff,Nat.reduceSub,Nat.reduceMul,Int.reduceEq,Int.reduceLT,Int.reduceLE,Int.reduceSub,Int.reduceAdd,Int.reduceToNat,reduceCtorEq,Int.reduceNeg,TF3,TF4,TF9,TF25,TF26,TF28,TF30,TF34,TF47,TF48,TF55,TF72,TF114,tcC];refine⟨by omega,_,paR_get hd,rfl,?_⟩;(try simp -implicitDefEqProofs only [EV,forall_const,implies_true,Nat.reduceAdd,Nat.reduceEqDiff,Nat.reduceBEq,Nat.reduceLeDiff,Nat.reduceSub,Nat.reduceMul,Int.reduceEq,Int.reduceLT,Int.reduceLE,Int.reduceSub,Int.reduceAdd,Int.reduceToNat,reduceCtorEq,Int.reduceNeg,TF3,TF4,TF9,TF25,TF26,TF28,TF30,TF34,TF47,TF48,TF55,TF72,TF114,tcC]);refine⟨_,.inl ⟨_,rfl,hfd,rfl⟩,?_⟩;(try simp -implicitDefEqProofs only [EV,forall_const,implies_true,Nat.reduceAdd,Nat.reduceEqDiff,Nat.reduceBEq,Nat.reduceLeDiff,Nat.reduceSub,Nat.reduceMul,Int.reduceEq,Int.reduceLT,Int.reduceLE,Int.reduceSub,Int.reduceAdd,Int.reduceToNat,reduceCtorEq,Int.reduceNeg,TF3,TF4,TF9,TF25,TF26,TF28,TF30,TF34,TF47,TF48,TF55,TF72,TF114,tcC]);apply z;clear z K)
      exact aR
     ·(refine sG q1gx [] 7 [] fun K z=>?_;simp -implicitDefEqProofs only [EV,forall_const,implies_true,Nat.reduceAdd,Nat.reduceEqDiff,Nat.reduceBEq,Nat.reduceLeDiff,Nat.reduceSub,Nat.reduceMul,Int.reduceEq,Int.reduceLT,Int.reduceLE,Int.reduceSub,Int.reduceAdd,Int.reduceToNat,reduceCtorEq,Int.reduceNeg,TF3,TF4,TF9,TF25,TF26,TF28,TF30,TF34,TF47,TF48,TF55,TF72,TF114,tcC,hn];refine⟨by omega,_,paR_get hd,rfl,?_⟩;(try simp -implicitDefEqProofs only [EV,forall_const,implies_true,Nat.reduceAdd,Nat.reduceEqDiff,Nat.reduceBEq,Nat.reduceLeDiff,Nat.reduceSub,Nat.reduceMul,Int.reduceEq,Int.reduceLT,Int.reduceLE,Int.reduceSub,Int.reduceAdd,Int.reduceToNat,reduceCtorEq,Int.reduceNeg,TF3,TF4,TF9,TF25,TF26,TF28,TF30,TF34,TF47,TF48,TF55,TF72,TF114,tcC,hn]);apply z;clear z K)
      refine AWp.condF rfl (AWp.skip (u3 _ _ ?_))
      clear u3 K3
      (refine lQ q1gx fun K z=>?_;simp -implicitDefEqProofs only [EV,forall_const,implies_true,Nat.reduceAdd,Nat.reduceEqDiff,Nat.reduceBEq,Nat.reduceLeDiff,Nat.reduceSub,Nat.reduceMul,Int.reduceEq,Int.reduceLT,Int.reduceLE,Int.reduceSub,Int.reduceAdd,Int.reduceToNat,reduceCtorEq,Int.reduceNeg,TF3,TF4,TF9,TF25,TF26,TF28,TF30,TF34,TF47,TF48,TF55,TF72,TF114,tcC];refine⟨by first | (unfold InR;omega) | (simp only [InR,sm,lim] at *;omega),?_⟩;(try simp -implicitDefEqProofs only [EV,forall_const,implies_true,Nat.reduceAdd,Nat.reduceEqDiff,Nat.reduceBEq,Nat.reduceLeDiff,Nat.reduceSub,Nat.reduceMul,Int.reduceEq,Int.reduceLT,Int.reduceLE,Int.reduceSub,Int.reduceAdd,Int.reduceToNat,reduceCtorEq,Int.reduceNeg,TF3,TF4,TF9,TF25,TF26,TF28,TF30,TF34,TF47,TF48,TF55,TF72,TF114,tcC]);apply z;clear z K;try simp only [thenA,blockA,if_true])
      refine⟨(),?_,(by simp [sle,vle,sget,tcC,exC]),(by simp [ble,bget,exC,tyC,foC,paC,siC,deC,prC])⟩
      intro y hy
      rw [tk,List.mem_append] at hy
      rcases hy with hy | hy
      ·exact hI y hy
      ·simp only [List.mem_singleton] at hy;subst hy;exact decide_eq_false hn
    intro _ hI
    rw [List.take_length] at hI
    obtain rfl:R=noT e.pos:=by rw [← hR];exact hneg (idxF_none hI)
    refine sK fun K3 u3=>?_
    (refine sQ q1gx fun K z=>?_;simp -implicitDefEqProofs only [EV,forall_const,implies_true,Nat.reduceAdd,Nat.reduceEqDiff,Nat.reduceBEq,Nat.reduceLeDiff,Nat.reduceSub,Nat.reduceMul,Int.reduceEq,Int.reduceLT,Int.reduceLE,Int.reduceSub,Int.reduceAdd,Int.reduceToNat,reduceCtorEq,Int.reduceNeg,TF3,TF4,TF9,TF25,TF26,TF28,TF30,TF34,TF47,TF48,TF55,TF72,TF114,tcC,Int.lt_irrefl];apply z;clear z K)
    refine AWp.stopK rfl ?_
    simp only [thenA,blockA,if_true]
    refine u2 _ _ ?_
    (refine sQ q1gx fun K z=>?_;simp -implicitDefEqProofs only [EV,forall_const,implies_true,Nat.reduceAdd,Nat.reduceEqDiff,Nat.reduceBEq,Nat.reduceLeDiff,Nat.reduceSub,Nat.reduceMul,Int.reduceEq,Int.reduceLT,Int.reduceLE,Int.reduceSub,Int.reduceAdd,Int.reduceToNat,reduceCtorEq,Int.reduceNeg,TF3,TF4,TF9,TF25,TF26,TF28,TF30,TF34,TF47,TF48,TF55,TF72,TF114,tcC];refine⟨_,.inl ⟨_,rfl,hnoE,rfl⟩,?_⟩;(try simp -implicitDefEqProofs only [EV,forall_const,implies_true,Nat.reduceAdd,Nat.reduceEqDiff,Nat.reduceBEq,Nat.reduceLeDiff,Nat.reduceSub,Nat.reduceMul,Int.reduceEq,Int.reduceLT,Int.reduceLE,Int.reduceSub,Int.reduceAdd,Int.reduceToNat,reduceCtorEq,Int.reduceNeg,TF3,TF4,TF9,TF25,TF26,TF28,TF30,TF34,TF47,TF48,TF55,TF72,TF114,tcC]);apply z;clear z K)
    exact aR
  ·have n2:¬ e.kind=2:=by omega
   have n4:¬ e.kind=4:=by omega
   have e5:=decide_eq_true k
   refine sK fun K1 u1=>?_
   (refine sQ q1gx fun K z=>?_;simp -implicitDefEqProofs only [EV,forall_const,implies_true,Nat.reduceAdd,Nat.reduceEqDiff,Nat.reduceBEq,Nat.reduceLeDiff,Nat.reduceSub,Nat.reduceMul,Int.reduceEq,Int.reduceLT,Int.reduceLE,Int.reduceSub,Int.reduceAdd,Int.reduceToNat,reduceCtorEq,Int.reduceNeg,TF3,TF4,TF9,TF25,TF26,TF28,TF30,TF34,TF47,TF48,TF55,TF72,TF114,tcC,decide_not,n2,n4,e5,hl0];apply z;clear z K)
   refine kI u1 ?_
   clear u1 K1
   (refine sG q1gx [] 12 [⟨[],[],[9,10],[9,10]⟩,⟨[],[],[9,10],[9,10]⟩,⟨[],[],[9,10],[9,10]⟩,⟨[],[],[9,10],[9,10]⟩,⟨[],[],[9,10],[9,10]⟩,⟨[],[],[9,10],[9,10]⟩,⟨[],[],[9,10],[9,10]⟩,⟨[],[],[9,10],[9,10]⟩,⟨[],[],[9,10],[9,10]⟩,⟨[9],[9],[10],[10]⟩,⟨[10],[10],[9],[9]⟩,⟨[9],[],[],[]⟩] fun K z=>?_;simp -implicitDefEqProofs only [EV,forall_const,implies_true,Nat.reduceAdd,Nat.reduceEqDiff,Nat.reduceBEq,Nat.reduceLeDiff,Nat.reduceSub,Nat.reduceMul,Int.reduceEq,Int.reduceLT,Int.reduceLE,Int.reduceSub,Int.reduceAdd,Int.reduceToNat,reduceCtorEq,Int.reduceNeg,TF3,TF4,TF9,TF25,TF26,TF28,TF30,TF34,TF47,TF48,TF55,TF72,TF114,tcC];refine⟨_,exR_get h0,rfl,?_⟩;(try simp -implicitDefEqProofs only [EV,forall_const,implies_true,Nat.reduceAdd,Nat.reduceEqDiff,Nat.reduceBEq,Nat.reduceLeDiff,Nat.reduceSub,Nat.reduceMul,Int.reduceEq,Int.reduceLT,Int.reduceLE,Int.reduceSub,Int.reduceAdd,Int.reduceToNat,reduceCtorEq,Int.reduceNeg,TF3,TF4,TF9,TF25,TF26,TF28,TF30,TF34,TF47,TF48,TF55,TF72,TF114,tcC]);refine⟨_,.inl ⟨_,rfl,hT,rfl⟩,?_⟩;(try simp -implicitDefEqProofs only [EV,forall_const,implies_true,Nat.reduceAdd,Nat.reduceEqDiff,Nat.reduceBEq,Nat.reduceLeDiff,Nat.reduceSub,Nat.reduceMul,Int.reduceEq,Int.reduceLT,Int.reduceLE,Int.reduceSub,Int.reduceAdd,Int.reduceToNat,reduceCtorEq,Int.reduceNeg,TF3,TF4,TF9,TF25,TF26,TF28,TF30,TF34,TF47,TF48,TF55,TF72,TF114,tcC]);apply z;clear z K)
   (refine AWp.freeze 9 rfl rfl ?_;refine AWp.freeze 10 rfl rfl (wk [(2,.dptr (tcC c) 0),(3,.dptr (exC e) 0),(4,.box 4 0),(5,.box 5 0),(9,.dptr (tyC x) 0),(10,.dptr [.int .i64 q,.bool b,.bool lg] 0)] [(4,ty0C),(5,rs0)] ?_))
   cases b with
   | true =>
    rw [if_pos rfl] at hR
    subst hR
    refine kR q1gx fun K1 u1=>?_
    refine tI ?_
    (refine sG q1gx [] 3 [⟨[],[],[],[]⟩,⟨[],[],[4],[]⟩,⟨[4],[],[],[]⟩] fun K z=>?_;refine ev ?_;apply z;clear z K)
    exact aR
   | false =>
    rw [if_neg (by simp),if_neg n2,if_neg n4] at hR
    unfold assertT at hR
    refine kR q1gx fun K1 u1=>?_
    refine kI u1 ?_
    clear u1 K1
    refine sK fun K1 u1=>?_
    (refine sQ q1gx fun K z=>?_;simp -implicitDefEqProofs only [EV,forall_const,implies_true,Nat.reduceAdd,Nat.reduceEqDiff,Nat.reduceBEq,Nat.reduceLeDiff,Nat.reduceSub,Nat.reduceMul,Int.reduceEq,Int.reduceLT,Int.reduceLE,Int.reduceSub,Int.reduceAdd,Int.reduceToNat,reduceCtorEq,Int.reduceNeg,TF3,TF4,TF9,TF25,TF26,TF28,TF30,TF34,TF47,TF48,TF55,TF72,TF114,tcC,n2];apply z;clear z K)
    refine kI u1 ?_
    clear u1 K1
    refine sK fun K1 u1=>?_
    (refine sQ q1gx fun K z=>?_;simp -implicitDefEqProofs only [EV,forall_const,implies_true,Nat.reduceAdd,Nat.reduceEqDiff,Nat.reduceBEq,Nat.reduceLeDiff,Nat.reduceSub,Nat.reduceMul,Int.reduceEq,Int.reduceLT,Int.reduceLE,Int.reduceSub,Int.reduceAdd,Int.reduceToNat,reduceCtorEq,Int.reduceNeg,TF3,TF4,TF9,TF25,TF26,TF28,TF30,TF34,TF47,TF48,TF55,TF72,TF114,tcC,n4];apply z;clear z K)
    refine kI u1 ?_
    clear u1 K1
    cases ho:chk c.p c.env e.type with
    | some n =>
     rw [ho] at hck hR
     simp only [chkV] at hck hR
     have hnoQ:=ok_no16 n
     subst hR
     (refine sQ q1gx fun K z=>?_;simp -implicitDefEqProofs only [EV,forall_const,implies_true,Nat.reduceAdd,Nat.reduceEqDiff,Nat.reduceBEq,Nat.reduceLeDiff,Nat.reduceSub,Nat.reduceMul,Int.reduceEq,Int.reduceLT,Int.reduceLE,Int.reduceSub,Int.reduceAdd,Int.reduceToNat,reduceCtorEq,Int.reduceNeg,TF3,TF4,TF9,TF25,TF26,TF28,TF30,TF34,TF47,TF48,TF55,TF72,TF114,tcC];refine⟨_,.inl ⟨_,rfl,hck,rfl⟩,?_⟩;(try simp -implicitDefEqProofs only [EV,forall_const,implies_true,Nat.reduceAdd,Nat.reduceEqDiff,Nat.reduceBEq,Nat.reduceLeDiff,Nat.reduceSub,Nat.reduceMul,Int.reduceEq,Int.reduceLT,Int.reduceLE,Int.reduceSub,Int.reduceAdd,Int.reduceToNat,reduceCtorEq,Int.reduceNeg,TF3,TF4,TF9,TF25,TF26,TF28,TF30,TF34,TF47,TF48,TF55,TF72,TF114,tcC]);apply z;clear z K)
     refine sK fun K1 u1=>?_
     (refine sQ q1gx fun K z=>?_;simp -implicitDefEqProofs only [EV,forall_const,implies_true,Nat.reduceAdd,Nat.reduceEqDiff,Nat.reduceBEq,Nat.reduceLeDiff,Nat.reduceSub,Nat.reduceMul,Int.reduceEq,Int.reduceLT,Int.reduceLE,Int.reduceSub,Int.reduceAdd,Int.reduceToNat,reduceCtorEq,Int.reduceNeg,TF3,TF4,TF9,TF25,TF26,TF28,TF30,TF34,TF47,TF48,TF55,TF72,TF114,tcC];apply z;clear z K)
     refine tI ?_
     (refine sQ q1gx fun K z=>?_;simp -implicitDefEqProofs only [EV,forall_const,implies_true,Nat.reduceAdd,Nat.reduceEqDiff,Nat.reduceBEq,Nat.reduceLeDiff,Nat.reduceSub,Nat.reduceMul,Int.reduceEq,Int.reduceLT,Int.reduceLE,Int.reduceSub,Int.reduceAdd,Int.reduceToNat,reduceCtorEq,Int.reduceNeg,TF3,TF4,TF9,TF25,TF26,TF28,TF30,TF34,TF47,TF48,TF55,TF72,TF114,tcC];refine⟨_,.inl ⟨_,rfl,hnoQ,rfl⟩,?_⟩;(try simp -implicitDefEqProofs only [EV,forall_const,implies_true,Nat.reduceAdd,Nat.reduceEqDiff,Nat.reduceBEq,Nat.reduceLeDiff,Nat.reduceSub,Nat.reduceMul,Int.reduceEq,Int.reduceLT,Int.reduceLE,Int.reduceSub,Int.reduceAdd,Int.reduceToNat,reduceCtorEq,Int.reduceNeg,TF3,TF4,TF9,TF25,TF26,TF28,TF30,TF34,TF47,TF48,TF55,TF72,TF114,tcC]);apply z;clear z K)
     exact aR
    | none =>
     rw [ho] at hck hR
     simp only [chkV] at hck hR
     (refine sQ q1gx fun K z=>?_;simp -implicitDefEqProofs only [EV,forall_const,implies_true,Nat.reduceAdd,Nat.reduceEqDiff,Nat.reduceBEq,Nat.reduceLeDiff,Nat.reduceSub,Nat.reduceMul,Int.reduceEq,Int.reduceLT,Int.reduceLE,Int.reduceSub,Int.reduceAdd,Int.reduceToNat,reduceCtorEq,Int.reduceNeg,TF3,TF4,TF9,TF25,TF26,TF28,TF30,TF34,TF47,TF48,TF55,TF72,TF114,tcC];refine⟨_,.inl ⟨_,rfl,hck,rfl⟩,?_⟩;(try simp -implicitDefEqProofs only [EV,forall_const,implies_true,Nat.reduceAdd,Nat.reduceEqDiff,Nat.reduceBEq,Nat.reduceLeDiff,Nat.reduceSub,Nat.reduceMul,Int.reduceEq,Int.reduceLT,Int.reduceLE,Int.reduceSub,Int.reduceAdd,Int.reduceToNat,reduceCtorEq,Int.reduceNeg,TF3,TF4,TF9,TF25,TF26,TF28,TF30,TF34,TF47,TF48,TF55,TF72,TF114,tcC]);apply z;clear z K)
     refine sK fun K1 u1=>?_
     (refine sQ q1gx fun K z=>?_;simp -implicitDefEqProofs only [EV,forall_const,implies_true,Nat.reduceAdd,Nat.reduceEqDiff,Nat.reduceBEq,Nat.reduceLeDiff,Nat.reduceSub,Nat.reduceMul,Int.reduceEq,Int.reduceLT,Int.reduceLE,Int.reduceSub,Int.reduceAdd,Int.reduceToNat,reduceCtorEq,Int.reduceNeg,TF3,TF4,TF9,TF25,TF26,TF28,TF30,TF34,TF47,TF48,TF55,TF72,TF114,tcC];apply z;clear z K)
     refine kI u1 ?_
     clear u1 K1
     have hfv:=ok_RefFind c.env x hc.el
     have hox:=ok_open16 c hc x
     have hoy:=ok_open16 c hc e.type
     refine sK fun K1 u1=>?_
     rcases Bool.eq_false_or_eq_true c.strict with hst | hst
     rotate_left
     ·rw [if_neg (fun hh=>by rw [hst] at hh;cases hh.1)] at hR
      subst hR
      (refine sQ q1gx fun K z=>?_;simp -implicitDefEqProofs only [EV,forall_const,implies_true,Nat.reduceAdd,Nat.reduceEqDiff,Nat.reduceBEq,Nat.reduceLeDiff,Nat.reduceSub,Nat.reduceMul,Int.reduceEq,Int.reduceLT,Int.reduceLE,Int.reduceSub,Int.reduceAdd,Int.reduceToNat,reduceCtorEq,Int.reduceNeg,TF3,TF4,TF9,TF25,TF26,TF28,TF30,TF34,TF47,TF48,TF55,TF72,TF114,tcC,hst];apply z;clear z K)
      refine AWp.condF rfl (AWp.skip (u1 _ _ ?_))
      (refine sG q1gx [] 4 [⟨[],[],[],[]⟩,⟨[],[],[],[]⟩,⟨[],[],[4],[]⟩,⟨[4],[],[],[]⟩] fun K z=>?_;simp -implicitDefEqProofs only [EV,forall_const,implies_true,Nat.reduceAdd,Nat.reduceEqDiff,Nat.reduceBEq,Nat.reduceLeDiff,Nat.reduceSub,Nat.reduceMul,Int.reduceEq,Int.reduceLT,Int.reduceLE,Int.reduceSub,Int.reduceAdd,Int.reduceToNat,reduceCtorEq,Int.reduceNeg,TF3,TF4,TF9,TF25,TF26,TF28,TF30,TF34,TF47,TF48,TF55,TF72,TF114,tcC];apply z;clear z K)
      exact aR
     ·(refine sQ q1gx fun K z=>?_;simp -implicitDefEqProofs only [EV,forall_const,implies_true,Nat.reduceAdd,Nat.reduceEqDiff,Nat.reduceBEq,Nat.reduceLeDiff,Nat.reduceSub,Nat.reduceMul,Int.reduceEq,Int.reduceLT,Int.reduceLE,Int.reduceSub,Int.reduceAdd,Int.reduceToNat,reduceCtorEq,Int.reduceNeg,TF3,TF4,TF9,TF25,TF26,TF28,TF30,TF34,TF47,TF48,TF55,TF72,TF114,tcC];apply z;clear z K)
      refine AWp.cond rfl (fun _=>?_) (fun hf=>absurd (hst.symm.trans hf) (by decide))
      refine sR q1gx ?_
      (refine sQ q1gx fun K z=>?_;simp -implicitDefEqProofs only [EV,forall_const,implies_true,Nat.reduceAdd,Nat.reduceEqDiff,Nat.reduceBEq,Nat.reduceLeDiff,Nat.reduceSub,Nat.reduceMul,Int.reduceEq,Int.reduceLT,Int.reduceLE,Int.reduceSub,Int.reduceAdd,Int.reduceToNat,reduceCtorEq,Int.reduceNeg,TF3,TF4,TF9,TF25,TF26,TF28,TF30,TF34,TF47,TF48,TF55,TF72,TF114,tcC];refine⟨_,.inl ⟨_,rfl,hfv,rfl⟩,?_⟩;(try simp -implicitDefEqProofs only [EV,forall_const,implies_true,Nat.reduceAdd,Nat.reduceEqDiff,Nat.reduceBEq,Nat.reduceLeDiff,Nat.reduceSub,Nat.reduceMul,Int.reduceEq,Int.reduceLT,Int.reduceLE,Int.reduceSub,Int.reduceAdd,Int.reduceToNat,reduceCtorEq,Int.reduceNeg,TF3,TF4,TF9,TF25,TF26,TF28,TF30,TF34,TF47,TF48,TF55,TF72,TF114,tcC]);apply z;clear z K)
      refine sK fun K2 u2=>?_
      by_cases h0:0≤findV c.env x
      ·obtain⟨f,hf,_⟩:=findV_get (env:=c.env) (t:=x) (by omega)
       have hbt:=boundT_at h0 hf
       have hi:=ok_RImplements c.p hc.p c.env hc.el hc.env e.type f.bound he.type (hc.env f (List.mem_of_getElem? hf)).bound
       have hbi:implB c.p c.env e.type (boundT c x)=implB c.p c.env e.type f.bound:=by rw [hbt]
       rw [← hbi] at hi
       (refine sQ q1gx fun K z=>?_;simp -implicitDefEqProofs only [EV,forall_const,implies_true,Nat.reduceAdd,Nat.reduceEqDiff,Nat.reduceBEq,Nat.reduceLeDiff,Nat.reduceSub,Nat.reduceMul,Int.reduceEq,Int.reduceLT,Int.reduceLE,Int.reduceSub,Int.reduceAdd,Int.reduceToNat,reduceCtorEq,Int.reduceNeg,TF3,TF4,TF9,TF25,TF26,TF28,TF30,TF34,TF47,TF48,TF55,TF72,TF114,tcC,ge_iff_le,h0];apply z;clear z K)
       refine AWp.condT rfl ?_
       (refine lQ q1gx fun K z=>?_;simp -implicitDefEqProofs only [EV,forall_const,implies_true,Nat.reduceAdd,Nat.reduceEqDiff,Nat.reduceBEq,Nat.reduceLeDiff,Nat.reduceSub,Nat.reduceMul,Int.reduceEq,Int.reduceLT,Int.reduceLE,Int.reduceSub,Int.reduceAdd,Int.reduceToNat,reduceCtorEq,Int.reduceNeg,TF3,TF4,TF9,TF25,TF26,TF28,TF30,TF34,TF47,TF48,TF55,TF72,TF114,tcC];refine⟨h0,_,foR_get hf,rfl,?_⟩;(try simp -implicitDefEqProofs only [EV,forall_const,implies_true,Nat.reduceAdd,Nat.reduceEqDiff,Nat.reduceBEq,Nat.reduceLeDiff,Nat.reduceSub,Nat.reduceMul,Int.reduceEq,Int.reduceLT,Int.reduceLE,Int.reduceSub,Int.reduceAdd,Int.reduceToNat,reduceCtorEq,Int.reduceNeg,TF3,TF4,TF9,TF25,TF26,TF28,TF30,TF34,TF47,TF48,TF55,TF72,TF114,tcC]);apply z;clear z K;try simp only [thenA,blockA,if_true])
       refine u2 _ _ ?_
       clear u2 K2
       rcases Bool.eq_false_or_eq_true (openT c x) with ha | ha
       rotate_left
       ·rw [if_pos ⟨hst,by unfold possT;rw [ha];rfl⟩] at hR
        subst hR
        rw [ha] at hox
        (refine sQ q1gx fun K z=>?_;simp -implicitDefEqProofs only [EV,forall_const,implies_true,Nat.reduceAdd,Nat.reduceEqDiff,Nat.reduceBEq,Nat.reduceLeDiff,Nat.reduceSub,Nat.reduceMul,Int.reduceEq,Int.reduceLT,Int.reduceLE,Int.reduceSub,Int.reduceAdd,Int.reduceToNat,reduceCtorEq,Int.reduceNeg,TF3,TF4,TF9,TF25,TF26,TF28,TF30,TF34,TF47,TF48,TF55,TF72,TF114,tcC];refine⟨_,.inl ⟨_,rfl,hox,rfl⟩,?_⟩;(try simp -implicitDefEqProofs only [EV,forall_const,implies_true,Nat.reduceAdd,Nat.reduceEqDiff,Nat.reduceBEq,Nat.reduceLeDiff,Nat.reduceSub,Nat.reduceMul,Int.reduceEq,Int.reduceLT,Int.reduceLE,Int.reduceSub,Int.reduceAdd,Int.reduceToNat,reduceCtorEq,Int.reduceNeg,TF3,TF4,TF9,TF25,TF26,TF28,TF30,TF34,TF47,TF48,TF55,TF72,TF114,tcC]);apply z;clear z K)
        refine tI ?_
        (refine sQ q1gx fun K z=>?_;simp -implicitDefEqProofs only [EV,forall_const,implies_true,Nat.reduceAdd,Nat.reduceEqDiff,Nat.reduceBEq,Nat.reduceLeDiff,Nat.reduceSub,Nat.reduceMul,Int.reduceEq,Int.reduceLT,Int.reduceLE,Int.reduceSub,Int.reduceAdd,Int.reduceToNat,reduceCtorEq,Int.reduceNeg,TF3,TF4,TF9,TF25,TF26,TF28,TF30,TF34,TF47,TF48,TF55,TF72,TF114,tcC];refine⟨_,.inl ⟨_,rfl,hnoE,rfl⟩,?_⟩;(try simp -implicitDefEqProofs only [EV,forall_const,implies_true,Nat.reduceAdd,Nat.reduceEqDiff,Nat.reduceBEq,Nat.reduceLeDiff,Nat.reduceSub,Nat.reduceMul,Int.reduceEq,Int.reduceLT,Int.reduceLE,Int.reduceSub,Int.reduceAdd,Int.reduceToNat,reduceCtorEq,Int.reduceNeg,TF3,TF4,TF9,TF25,TF26,TF28,TF30,TF34,TF47,TF48,TF55,TF72,TF114,tcC]);apply z;clear z K)
        exact aR
       rw [ha] at hox
       rcases Bool.eq_false_or_eq_true (openT c e.type) with hb | hb
       ·rw [if_neg (fun hh=>by have:=hh.2;unfold possT at this;rw [ha,hb] at this;cases this)] at hR
        subst hR
        rw [hb] at hoy
        (refine sQ q1gx fun K z=>?_;simp -implicitDefEqProofs only [EV,forall_const,implies_true,Nat.reduceAdd,Nat.reduceEqDiff,Nat.reduceBEq,Nat.reduceLeDiff,Nat.reduceSub,Nat.reduceMul,Int.reduceEq,Int.reduceLT,Int.reduceLE,Int.reduceSub,Int.reduceAdd,Int.reduceToNat,reduceCtorEq,Int.reduceNeg,TF3,TF4,TF9,TF25,TF26,TF28,TF30,TF34,TF47,TF48,TF55,TF72,TF114,tcC];refine⟨_,.inl ⟨_,rfl,hox,rfl⟩,?_⟩;(try simp -implicitDefEqProofs only [EV,forall_const,implies_true,Nat.reduceAdd,Nat.reduceEqDiff,Nat.reduceBEq,Nat.reduceLeDiff,Nat.reduceSub,Nat.reduceMul,Int.reduceEq,Int.reduceLT,Int.reduceLE,Int.reduceSub,Int.reduceAdd,Int.reduceToNat,reduceCtorEq,Int.reduceNeg,TF3,TF4,TF9,TF25,TF26,TF28,TF30,TF34,TF47,TF48,TF55,TF72,TF114,tcC]);refine⟨_,.inl ⟨_,rfl,hoy,rfl⟩,?_⟩;(try simp -implicitDefEqProofs only [EV,forall_const,implies_true,Nat.reduceAdd,Nat.reduceEqDiff,Nat.reduceBEq,Nat.reduceLeDiff,Nat.reduceSub,Nat.reduceMul,Int.reduceEq,Int.reduceLT,Int.reduceLE,Int.reduceSub,Int.reduceAdd,Int.reduceToNat,reduceCtorEq,Int.reduceNeg,TF3,TF4,TF9,TF25,TF26,TF28,TF30,TF34,TF47,TF48,TF55,TF72,TF114,tcC]);apply z;clear z K)
        refine AWp.condF rfl (AWp.skip (u1 _ _ ?_))
        (refine sG q1gx [] 4 [⟨[],[],[],[]⟩,⟨[],[],[],[]⟩,⟨[],[],[4],[]⟩,⟨[4],[],[],[]⟩] fun K z=>?_;simp -implicitDefEqProofs only [EV,forall_const,implies_true,Nat.reduceAdd,Nat.reduceEqDiff,Nat.reduceBEq,Nat.reduceLeDiff,Nat.reduceSub,Nat.reduceMul,Int.reduceEq,Int.reduceLT,Int.reduceLE,Int.reduceSub,Int.reduceAdd,Int.reduceToNat,reduceCtorEq,Int.reduceNeg,TF3,TF4,TF9,TF25,TF26,TF28,TF30,TF34,TF47,TF48,TF55,TF72,TF114,tcC];apply z;clear z K)
        exact aR
       rw [hb] at hoy
       rcases Bool.eq_false_or_eq_true (implB c.p c.env e.type (boundT c x)) with hm | hm
       ·rw [if_neg (fun hh=>by have:=hh.2;unfold possT at this;rw [ha,hb,hm] at this;cases this)] at hR
        subst hR
        rw [hm] at hi
        (refine sQ q1gx fun K z=>?_;simp -implicitDefEqProofs only [EV,forall_const,implies_true,Nat.reduceAdd,Nat.reduceEqDiff,Nat.reduceBEq,Nat.reduceLeDiff,Nat.reduceSub,Nat.reduceMul,Int.reduceEq,Int.reduceLT,Int.reduceLE,Int.reduceSub,Int.reduceAdd,Int.reduceToNat,reduceCtorEq,Int.reduceNeg,TF3,TF4,TF9,TF25,TF26,TF28,TF30,TF34,TF47,TF48,TF55,TF72,TF114,tcC];refine⟨_,.inl ⟨_,rfl,hox,rfl⟩,?_⟩;(try simp -implicitDefEqProofs only [EV,forall_const,implies_true,Nat.reduceAdd,Nat.reduceEqDiff,Nat.reduceBEq,Nat.reduceLeDiff,Nat.reduceSub,Nat.reduceMul,Int.reduceEq,Int.reduceLT,Int.reduceLE,Int.reduceSub,Int.reduceAdd,Int.reduceToNat,reduceCtorEq,Int.reduceNeg,TF3,TF4,TF9,TF25,TF26,TF28,TF30,TF34,TF47,TF48,TF55,TF72,TF114,tcC]);refine⟨_,.inl ⟨_,rfl,hoy,rfl⟩,?_⟩;(try simp -implicitDefEqProofs only [EV,forall_const,implies_true,Nat.reduceAdd,Nat.reduceEqDiff,Nat.reduceBEq,Nat.reduceLeDiff,Nat.reduceSub,Nat.reduceMul,Int.reduceEq,Int.reduceLT,Int.reduceLE,Int.reduceSub,Int.reduceAdd,Int.reduceToNat,reduceCtorEq,Int.reduceNeg,TF3,TF4,TF9,TF25,TF26,TF28,TF30,TF34,TF47,TF48,TF55,TF72,TF114,tcC]);refine⟨_,.inl ⟨_,rfl,hi,rfl⟩,?_⟩;(try simp -implicitDefEqProofs only [EV,forall_const,implies_true,Nat.reduceAdd,Nat.reduceEqDiff,Nat.reduceBEq,Nat.reduceLeDiff,Nat.reduceSub,Nat.reduceMul,Int.reduceEq,Int.reduceLT,Int.reduceLE,Int.reduceSub,Int.reduceAdd,Int.reduceToNat,reduceCtorEq,Int.reduceNeg,TF3,TF4,TF9,TF25,TF26,TF28,TF30,TF34,TF47,TF48,TF55,TF72,TF114,tcC]);apply z;clear z K)
        refine AWp.condF rfl (AWp.skip (u1 _ _ ?_))
        (refine sG q1gx [] 4 [⟨[],[],[],[]⟩,⟨[],[],[],[]⟩,⟨[],[],[4],[]⟩,⟨[4],[],[],[]⟩] fun K z=>?_;simp -implicitDefEqProofs only [EV,forall_const,implies_true,Nat.reduceAdd,Nat.reduceEqDiff,Nat.reduceBEq,Nat.reduceLeDiff,Nat.reduceSub,Nat.reduceMul,Int.reduceEq,Int.reduceLT,Int.reduceLE,Int.reduceSub,Int.reduceAdd,Int.reduceToNat,reduceCtorEq,Int.reduceNeg,TF3,TF4,TF9,TF25,TF26,TF28,TF30,TF34,TF47,TF48,TF55,TF72,TF114,tcC];apply z;clear z K)
        exact aR
       ·rw [if_pos ⟨hst,by unfold possT;rw [ha,hb,hm];rfl⟩] at hR
        subst hR
        rw [hm] at hi
        (refine sQ q1gx fun K z=>?_;simp -implicitDefEqProofs only [EV,forall_const,implies_true,Nat.reduceAdd,Nat.reduceEqDiff,Nat.reduceBEq,Nat.reduceLeDiff,Nat.reduceSub,Nat.reduceMul,Int.reduceEq,Int.reduceLT,Int.reduceLE,Int.reduceSub,Int.reduceAdd,Int.reduceToNat,reduceCtorEq,Int.reduceNeg,TF3,TF4,TF9,TF25,TF26,TF28,TF30,TF34,TF47,TF48,TF55,TF72,TF114,tcC];refine⟨_,.inl ⟨_,rfl,hox,rfl⟩,?_⟩;(try simp -implicitDefEqProofs only [EV,forall_const,implies_true,Nat.reduceAdd,Nat.reduceEqDiff,Nat.reduceBEq,Nat.reduceLeDiff,Nat.reduceSub,Nat.reduceMul,Int.reduceEq,Int.reduceLT,Int.reduceLE,Int.reduceSub,Int.reduceAdd,Int.reduceToNat,reduceCtorEq,Int.reduceNeg,TF3,TF4,TF9,TF25,TF26,TF28,TF30,TF34,TF47,TF48,TF55,TF72,TF114,tcC]);refine⟨_,.inl ⟨_,rfl,hoy,rfl⟩,?_⟩;(try simp -implicitDefEqProofs only [EV,forall_const,implies_true,Nat.reduceAdd,Nat.reduceEqDiff,Nat.reduceBEq,Nat.reduceLeDiff,Nat.reduceSub,Nat.reduceMul,Int.reduceEq,Int.reduceLT,Int.reduceLE,Int.reduceSub,Int.reduceAdd,Int.reduceToNat,reduceCtorEq,Int.reduceNeg,TF3,TF4,TF9,TF25,TF26,TF28,TF30,TF34,TF47,TF48,TF55,TF72,TF114,tcC]);refine⟨_,.inl ⟨_,rfl,hi,rfl⟩,?_⟩;(try simp -implicitDefEqProofs only [EV,forall_const,implies_true,Nat.reduceAdd,Nat.reduceEqDiff,Nat.reduceBEq,Nat.reduceLeDiff,Nat.reduceSub,Nat.reduceMul,Int.reduceEq,Int.reduceLT,Int.reduceLE,Int.reduceSub,Int.reduceAdd,Int.reduceToNat,reduceCtorEq,Int.reduceNeg,TF3,TF4,TF9,TF25,TF26,TF28,TF30,TF34,TF47,TF48,TF55,TF72,TF114,tcC]);apply z;clear z K)
        refine tI ?_
        (refine sQ q1gx fun K z=>?_;simp -implicitDefEqProofs only [EV,forall_const,implies_true,Nat.reduceAdd,Nat.reduceEqDiff,Nat.reduceBEq,Nat.reduceLeDiff,Nat.reduceSub,Nat.reduceMul,Int.reduceEq,Int.reduceLT,Int.reduceLE,Int.reduceSub,Int.reduceAdd,Int.reduceToNat,reduceCtorEq,Int.reduceNeg,TF3,TF4,TF9,TF25,TF26,TF28,TF30,TF34,TF47,TF48,TF55,TF72,TF114,tcC];refine⟨_,.inl ⟨_,rfl,hnoE,rfl⟩,?_⟩;(try simp -implicitDefEqProofs only [EV,forall_const,implies_true,Nat.reduceAdd,Nat.reduceEqDiff,Nat.reduceBEq,Nat.reduceLeDiff,Nat.reduceSub,Nat.reduceMul,Int.reduceEq,Int.reduceLT,Int.reduceLE,Int.reduceSub,Int.reduceAdd,Int.reduceToNat,reduceCtorEq,Int.reduceNeg,TF3,TF4,TF9,TF25,TF26,TF28,TF30,TF34,TF47,TF48,TF55,TF72,TF114,tcC]);apply z;clear z K)
        exact aR
      ·have hbt:=boundT_of h0
       have hi:=ok_RImplements c.p hc.p c.env hc.el hc.env e.type x he.type hzs
       have hbi:implB c.p c.env e.type (boundT c x)=implB c.p c.env e.type x:=by rw [hbt]
       rw [← hbi] at hi
       (refine sQ q1gx fun K z=>?_;simp -implicitDefEqProofs only [EV,forall_const,implies_true,Nat.reduceAdd,Nat.reduceEqDiff,Nat.reduceBEq,Nat.reduceLeDiff,Nat.reduceSub,Nat.reduceMul,Int.reduceEq,Int.reduceLT,Int.reduceLE,Int.reduceSub,Int.reduceAdd,Int.reduceToNat,reduceCtorEq,Int.reduceNeg,TF3,TF4,TF9,TF25,TF26,TF28,TF30,TF34,TF47,TF48,TF55,TF72,TF114,tcC,ge_iff_le,h0];apply z;clear z K)
       refine AWp.condF rfl (AWp.skip (u2 _ _ ?_))
       clear u2 K2
       rcases Bool.eq_false_or_eq_true (openT c x) with ha | ha
       rotate_left
       ·rw [if_pos ⟨hst,by unfold possT;rw [ha];rfl⟩] at hR
        subst hR
        rw [ha] at hox
        (refine sQ q1gx fun K z=>?_;simp -implicitDefEqProofs only [EV,forall_const,implies_true,Nat.reduceAdd,Nat.reduceEqDiff,Nat.reduceBEq,Nat.reduceLeDiff,Nat.reduceSub,Nat.reduceMul,Int.reduceEq,Int.reduceLT,Int.reduceLE,Int.reduceSub,Int.reduceAdd,Int.reduceToNat,reduceCtorEq,Int.reduceNeg,TF3,TF4,TF9,TF25,TF26,TF28,TF30,TF34,TF47,TF48,TF55,TF72,TF114,tcC];refine⟨_,.inl ⟨_,rfl,hox,rfl⟩,?_⟩;(try simp -implicitDefEqProofs only [EV,forall_const,implies_true,Nat.reduceAdd,Nat.reduceEqDiff,Nat.reduceBEq,Nat.reduceLeDiff,Nat.reduceSub,Nat.reduceMul,Int.reduceEq,Int.reduceLT,Int.reduceLE,Int.reduceSub,Int.reduceAdd,Int.reduceToNat,reduceCtorEq,Int.reduceNeg,TF3,TF4,TF9,TF25,TF26,TF28,TF30,TF34,TF47,TF48,TF55,TF72,TF114,tcC]);apply z;clear z K)
        refine tI ?_
        (refine sQ q1gx fun K z=>?_;simp -implicitDefEqProofs only [EV,forall_const,implies_true,Nat.reduceAdd,Nat.reduceEqDiff,Nat.reduceBEq,Nat.reduceLeDiff,Nat.reduceSub,Nat.reduceMul,Int.reduceEq,Int.reduceLT,Int.reduceLE,Int.reduceSub,Int.reduceAdd,Int.reduceToNat,reduceCtorEq,Int.reduceNeg,TF3,TF4,TF9,TF25,TF26,TF28,TF30,TF34,TF47,TF48,TF55,TF72,TF114,tcC];refine⟨_,.inl ⟨_,rfl,hnoE,rfl⟩,?_⟩;(try simp -implicitDefEqProofs only [EV,forall_const,implies_true,Nat.reduceAdd,Nat.reduceEqDiff,Nat.reduceBEq,Nat.reduceLeDiff,Nat.reduceSub,Nat.reduceMul,Int.reduceEq,Int.reduceLT,Int.reduceLE,Int.reduceSub,Int.reduceAdd,Int.reduceToNat,reduceCtorEq,Int.reduceNeg,TF3,TF4,TF9,TF25,TF26,TF28,TF30,TF34,TF47,TF48,TF55,TF72,TF114,tcC]);apply z;clear z K)
        exact aR
       rw [ha] at hox
       rcases Bool.eq_false_or_eq_true (openT c e.type) with hb | hb
       ·rw [if_neg (fun hh=>by have:=hh.2;unfold possT at this;rw [ha,hb] at this;cases this)] at hR
        subst hR
        rw [hb] at hoy
        (refine sQ q1gx fun K z=>?_;simp -implicitDefEqProofs only [EV,forall_const,implies_true,Nat.reduceAdd,Nat.reduceEqDiff,Nat.reduceBEq,Nat.reduceLeDiff,Nat.reduceSub,Nat.reduceMul,Int.reduceEq,Int.reduceLT,Int.reduceLE,Int.reduceSub,Int.reduceAdd,Int.reduceToNat,reduceCtorEq,Int.reduceNeg,TF3,TF4,TF9,TF25,TF26,TF28,TF30,TF34,TF47,TF48,TF55,TF72,TF114,tcC];refine⟨_,.inl ⟨_,rfl,hox,rfl⟩,?_⟩;(try simp -implicitDefEqProofs only [EV,forall_const,implies_true,Nat.reduceAdd,Nat.reduceEqDiff,Nat.reduceBEq,Nat.reduceLeDiff,Nat.reduceSub,Nat.reduceMul,Int.reduceEq,Int.reduceLT,Int.reduceLE,Int.reduceSub,Int.reduceAdd,Int.reduceToNat,reduceCtorEq,Int.reduceNeg,TF3,TF4,TF9,TF25,TF26,TF28,TF30,TF34,TF47,TF48,TF55,TF72,TF114,tcC]);refine⟨_,.inl ⟨_,rfl,hoy,rfl⟩,?_⟩;(try simp -implicitDefEqProofs only [EV,forall_const,implies_true,Nat.reduceAdd,Nat.reduceEqDiff,Nat.reduceBEq,Nat.reduceLeDiff,Nat.reduceSub,Nat.reduceMul,Int.reduceEq,Int.reduceLT,Int.reduceLE,Int.reduceSub,Int.reduceAdd,Int.reduceToNat,reduceCtorEq,Int.reduceNeg,TF3,TF4,TF9,TF25,TF26,TF28,TF30,TF34,TF47,TF48,TF55,TF72,TF114,tcC]);apply z;clear z K)
        refine AWp.condF rfl (AWp.skip (u1 _ _ ?_))
        (refine sG q1gx [] 4 [⟨[],[],[],[]⟩,⟨[],[],[],[]⟩,⟨[],[],[4],[]⟩,⟨[4],[],[],[]⟩] fun K z=>?_;simp -implicitDefEqProofs only [EV,forall_const,implies_true,Nat.reduceAdd,Nat.reduceEqDiff,Nat.reduceBEq,Nat.reduceLeDiff,Nat.reduceSub,Nat.reduceMul,Int.reduceEq,Int.reduceLT,Int.reduceLE,Int.reduceSub,Int.reduceAdd,Int.reduceToNat,reduceCtorEq,Int.reduceNeg,TF3,TF4,TF9,TF25,TF26,TF28,TF30,TF34,TF47,TF48,TF55,TF72,TF114,tcC];apply z;clear z K)
        exact aR
       rw [hb] at hoy
       rcases Bool.eq_false_or_eq_true (implB c.p c.env e.type (boundT c x)) with hm | hm
       ·rw [if_neg (fun hh=>by have:=hh.2;unfold possT at this;rw [ha,hb,hm] at this;cases this)] at hR
        subst hR
        rw [hm] at hi
        (refine sQ q1gx fun K z=>?_;simp -implicitDefEqProofs only [EV,forall_const,implies_true,Nat.reduceAdd,Nat.reduceEqDiff,Nat.reduceBEq,Nat.reduceLeDiff,Nat.reduceSub,Nat.reduceMul,Int.reduceEq,Int.reduceLT,Int.reduceLE,Int.reduceSub,Int.reduceAdd,Int.reduceToNat,reduceCtorEq,Int.reduceNeg,TF3,TF4,TF9,TF25,TF26,TF28,TF30,TF34,TF47,TF48,TF55,TF72,TF114,tcC];refine⟨_,.inl ⟨_,rfl,hox,rfl⟩,?_⟩;(try simp -implicitDefEqProofs only [EV,forall_const,implies_true,Nat.reduceAdd,Nat.reduceEqDiff,Nat.reduceBEq,Nat.reduceLeDiff,Nat.reduceSub,Nat.reduceMul,Int.reduceEq,Int.reduceLT,Int.reduceLE,Int.reduceSub,Int.reduceAdd,Int.reduceToNat,reduceCtorEq,Int.reduceNeg,TF3,TF4,TF9,TF25,TF26,TF28,TF30,TF34,TF47,TF48,TF55,TF72,TF114,tcC]);refine⟨_,.inl ⟨_,rfl,hoy,rfl⟩,?_⟩;(try simp -implicitDefEqProofs only [EV,forall_const,implies_true,Nat.reduceAdd,Nat.reduceEqDiff,Nat.reduceBEq,Nat.reduceLeDiff,Nat.reduceSub,Nat.reduceMul,Int.reduceEq,Int.reduceLT,Int.reduceLE,Int.reduceSub,Int.reduceAdd,Int.reduceToNat,reduceCtorEq,Int.reduceNeg,TF3,TF4,TF9,TF25,TF26,TF28,TF30,TF34,TF47,TF48,TF55,TF72,TF114,tcC]);refine⟨_,.inl ⟨_,rfl,hi,rfl⟩,?_⟩;(try simp -implicitDefEqProofs only [EV,forall_const,implies_true,Nat.reduceAdd,Nat.reduceEqDiff,Nat.reduceBEq,Nat.reduceLeDiff,Nat.reduceSub,Nat.reduceMul,Int.reduceEq,Int.reduceLT,Int.reduceLE,Int.reduceSub,Int.reduceAdd,Int.reduceToNat,reduceCtorEq,Int.reduceNeg,TF3,TF4,TF9,TF25,TF26,TF28,TF30,TF34,TF47,TF48,TF55,TF72,TF114,tcC]);apply z;clear z K)
        refine AWp.condF rfl (AWp.skip (u1 _ _ ?_))
        (refine sG q1gx [] 4 [⟨[],[],[],[]⟩,⟨[],[],[],[]⟩,⟨[],[],[4],[]⟩,⟨[4],[],[],[]⟩] fun K z=>?_;simp -implicitDefEqProofs only [EV,forall_const,implies_true,Nat.reduceAdd,Nat.reduceEqDiff,Nat.reduceBEq,Nat.reduceLeDiff,Nat.reduceSub,Nat.reduceMul,Int.reduceEq,Int.reduceLT,Int.reduceLE,Int.reduceSub,Int.reduceAdd,Int.reduceToNat,reduceCtorEq,Int.reduceNeg,TF3,TF4,TF9,TF25,TF26,TF28,TF30,TF34,TF47,TF48,TF55,TF72,TF114,tcC];apply z;clear z K)
        exact aR
       ·rw [if_pos ⟨hst,by unfold possT;rw [ha,hb,hm];rfl⟩] at hR
        subst hR
        rw [hm] at hi
        (refine sQ q1gx fun K z=>?_;simp -implicitDefEqProofs only [EV,forall_const,implies_true,Nat.reduceAdd,Nat.reduceEqDiff,Nat.reduceBEq,Nat.reduceLeDiff,Nat.reduceSub,Nat.reduceMul,Int.reduceEq,Int.reduceLT,Int.reduceLE,Int.reduceSub,Int.reduceAdd,Int.reduceToNat,reduceCtorEq,Int.reduceNeg,TF3,TF4,TF9,TF25,TF26,TF28,TF30,TF34,TF47,TF48,TF55,TF72,TF114,tcC];refine⟨_,.inl ⟨_,rfl,hox,rfl⟩,?_⟩;(try simp -implicitDefEqProofs only [EV,forall_const,implies_true,Nat.reduceAdd,Nat.reduceEqDiff,Nat.reduceBEq,Nat.reduceLeDiff,Nat.reduceSub,Nat.reduceMul,Int.reduceEq,Int.reduceLT,Int.reduceLE,Int.reduceSub,Int.reduceAdd,Int.reduceToNat,reduceCtorEq,Int.reduceNeg,TF3,TF4,TF9,TF25,TF26,TF28,TF30,TF34,TF47,TF48,TF55,TF72,TF114,tcC]);refine⟨_,.inl ⟨_,rfl,hoy,rfl⟩,?_⟩;(try simp -implicitDefEqProofs only [EV,forall_const,implies_true,Nat.reduceAdd,Nat.reduceEqDiff,Nat.reduceBEq,Nat.reduceLeDiff,Nat.reduceSub,Nat.reduceMul,Int.reduceEq,Int.reduceLT,Int.reduceLE,Int.reduceSub,Int.reduceAdd,Int.reduceToNat,reduceCtorEq,Int.reduceNeg,TF3,TF4,TF9,TF25,TF26,TF28,TF30,TF34,TF47,TF48,TF55,TF72,TF114,tcC]);refine⟨_,.inl ⟨_,rfl,hi,rfl⟩,?_⟩;(try simp -implicitDefEqProofs only [EV,forall_const,implies_true,Nat.reduceAdd,Nat.reduceEqDiff,Nat.reduceBEq,Nat.reduceLeDiff,Nat.reduceSub,Nat.reduceMul,Int.reduceEq,Int.reduceLT,Int.reduceLE,Int.reduceSub,Int.reduceAdd,Int.reduceToNat,reduceCtorEq,Int.reduceNeg,TF3,TF4,TF9,TF25,TF26,TF28,TF30,TF34,TF47,TF48,TF55,TF72,TF114,tcC]);apply z;clear z K)
        refine tI ?_
        (refine sQ q1gx fun K z=>?_;simp -implicitDefEqProofs only [EV,forall_const,implies_true,Nat.reduceAdd,Nat.reduceEqDiff,Nat.reduceBEq,Nat.reduceLeDiff,Nat.reduceSub,Nat.reduceMul,Int.reduceEq,Int.reduceLT,Int.reduceLE,Int.reduceSub,Int.reduceAdd,Int.reduceToNat,reduceCtorEq,Int.reduceNeg,TF3,TF4,TF9,TF25,TF26,TF28,TF30,TF34,TF47,TF48,TF55,TF72,TF114,tcC];refine⟨_,.inl ⟨_,rfl,hnoE,rfl⟩,?_⟩;(try simp -implicitDefEqProofs only [EV,forall_const,implies_true,Nat.reduceAdd,Nat.reduceEqDiff,Nat.reduceBEq,Nat.reduceLeDiff,Nat.reduceSub,Nat.reduceMul,Int.reduceEq,Int.reduceLT,Int.reduceLE,Int.reduceSub,Int.reduceAdd,Int.reduceToNat,reduceCtorEq,Int.reduceNeg,TF3,TF4,TF9,TF25,TF26,TF28,TF30,TF34,TF47,TF48,TF55,TF72,TF114,tcC]);apply z;clear z K)
        exact aR
set_option maxHeartbeats 1000000
set_option maxHeartbeats 4000000
theorem scope_Sm {p:Prog} (h:p.Sm)(st:Bool) {d:Decl} (hd:d.Sm)(h2:d.Two)(hps:d.sig.params.length+1≤sm):(scopeT p st d).Sm:=by
 refine⟨h,?_,?_,?_,?_⟩
 ·show (envR p d++d.sig.formals).length≤sm
  have:=envR_len p d;have:=h2.sig
  rw [List.length_append];omega
 ·intro f hf
  rcases List.mem_append.1 hf with hf | hf
  ·exact envR_Sm h hd f hf
  ·exact hd.sig.formals.2 f hf
 ·show (⟨d.recv,selfT d,0⟩::d.sig.params:List Param).length≤sm
  rw [List.length_cons];exact hps
 ·intro f hf
  rcases List.mem_cons.1 hf with rfl | hf
  ·refine⟨hd.recv,.mk _ _ _ hd.name (by simp only [varTs,List.length_map];exact hd.vars.1) (varTs_Sm hd)⟩
  ·exact hd.sig.params.2 f hf
abbrev z49:BoxC:=.cells [.d .nil,.d (.int .i64 0),.d (.str []),.d (.str []),.d .nil,.d (.int .i64 0),.d .nil,.d .nil,.d (.int .i64 0),.d (.bool false),.d .nil,.d .nil]
abbrev q1ix:List Nat:=[0,1,2,3,5,6,7,8,9,17,36,46,900]
theorem ok_Scope17 (p:Prog)(h:p.Sm)(st:Bool)(d:Decl)(hd:d.Sm)(h2:d.Two)(hps:d.sig.params.length+1≤sm):CallOK prog 72 [prV p,boolV st,deV d] (tcV (scopeT p st d)):=by
 have henv:=ok_Env15O p h d hd
 have hel:=envR_len p d
 have hvl:=hd.vars.1
 have hsl:=h2.sig
 have e1:foR (scopeT p st d).env=foR (envR p d)++foR d.sig.formals:=by simp [scopeT,foR]
 unfold tcV
 rw [e1]
 show CallOK prog 72 [prV p,boolV st,deV d] (.agg [.d (.slice (deR p.decls)),.d (.int .i64 p.main.kind),.d (.str p.main.name),.d (.str p.main.type.name),.d (.slice (tyR p.main.type.args)),.d (.int .i64 p.main.type.pos),.d (.slice (tyR p.main.targs)),.d (.slice (exR p.main.kids)),.d (.int .i64 p.main.pos),.d (.bool st),.d (.slice (foR (envR p d)++foR d.sig.formals)),.d (.slice ([[.str d.recv,.str d.name,.slice (tyR (varTs d.vars)),.int .i64 0,.int .i64 0]]++paR d.sig.params))])
 have helr:(foR (envR p d)).length≤d.vars.length:=by simpa [foR] using hel
 generalize foR (envR p d)=ER at *
 refine cB func72 ?_
 refine sR q1ix ?_
 (refine AWp.freeze 3 rfl rfl ?_;refine AWp.freeze 5 rfl rfl (wk [(1,boolV st),(3,.dptr (prC p) 0),(5,.dptr (deC d) 0),(6,.box 6 0)] [(6,z49)] ?_))
 refine sR q1ix ?_
 refine AWp.promoteBox 900 3 7 1 rfl rfl (by decide) ?_
 refine kR q1ix fun K1 u1=>?_
 refine AWp.block (AWp.forIdx d.vars (X:=Unit) (fun j _=>[(1,boolV st),(3,.dptr (prC p) 0),(5,.dptr (deC d) 0),(6,.box 6 0),(7,.box 7 0),(8,intV j)]) (fun j _=>[(6,z49),(7,.cells [.d (.str d.name),.acc 900,.d (.int .i64 0)]),(900,.rows 3 (tyR (varTs (d.vars.take j))))])
  (fun _ _=>True) () trivial (by simp [sle,vle,sget,deC,prC]) (by simp [ble,bget,tyR_map,varTs]) ?_ ?_)
 rotate_left
 ·intro j _ s hs hmem dp tk hlt _
  rw [tk]
  refine kR1 hlt q1ix fun K2 u2=>?_
  refine gI u2 ?_
  clear u2 K2
  refine sK fun K2 u2=>?_
  refine AWp.block ?_
  (refine lG q1ix [] 9 [] fun K z=>?_;refine ev ?_;refine ci (strR_get hs) ?_;refine⟨by simp,by simp only [varTs,List.length_map,List.length_take];unfold lim sm at *;omega,?_⟩;(try refine ev ?_);apply z;clear z K;try simp only [thenA,blockA])
  refine u2 _ _ ?_
  clear u2 K2
  refine lT q1ix ?_
  exact⟨(),trivial,(by simp [sle,vle,sget,deC,prC]),by simp [ble,bget,tyR_map,varTs,tyC,Ty.name,Ty.args,Ty.pos]⟩
 intro _ _
 rw [List.take_length]
 refine kR1 Int.lt_irrefl q1ix fun K2 u2=>?_
 refine AWp.stopK rfl ?_
 simp only [thenA,blockA,if_true]
 refine u1 _ _ ?_
 clear u2 K2 u1 K1
 (refine AWp.publish 900 rfl (wk [(1,boolV st),(3,.dptr (prC p) 0),(5,.dptr (deC d) 0),(6,.box 6 0),(7,.box 7 0)] [(6,z49),(7,.cells [.d (.str d.name),.d (.slice (tyR (varTs d.vars))),.d (.int .i64 0)])] ?_))
 refine sR q1ix ?_
 (refine sG q1ix [36] 6 [⟨[],[],[],[]⟩,⟨[],[],[],[]⟩,⟨[36],[36],[],[]⟩,⟨[],[],[36],[36]⟩,⟨[],[],[36],[36]⟩,⟨[],[],[36],[36]⟩] fun K z=>?_;refine ev ?_;refine⟨_,_,_,_,_,rfl,henv,?_⟩;(try refine ev ?_);refine⟨foR_row _,by unfold lim sm at *;omega,?_⟩;(try refine ev ?_);apply z;clear z K)
 (refine AWp.seqR q1ix [46] (by decide +kernel) fun K z=>?_;refine ev ?_;refine⟨paR_row _,by unfold lim sm at *;omega,?_⟩;(try refine ev ?_);apply z;clear z K)
 (refine AWp.publish 36 rfl ?_;refine AWp.publish 46 rfl (wk [(6,.box 6 0),(9,.box 9 0)] [(6,z49),(9,.cells [.d (.slice (deR p.decls)),.d (.int .i64 p.main.kind),.d (.str p.main.name),.d (.str p.main.type.name),.d (.slice (tyR p.main.type.args)),.d (.int .i64 p.main.type.pos),.d (.slice (tyR p.main.targs)),.d (.slice (exR p.main.kids)),.d (.int .i64 p.main.pos),.d (.bool st),.d (.slice (ER++foR d.sig.formals)),.d (.slice ([[.str d.recv,.str d.name,.slice (tyR (varTs d.vars)),.int .i64 0,.int .i64 0]]++paR d.sig.params))])] ?_))
 refine sR q1ix ?_
 exact aR
abbrev q2ix:List Nat:=[0,1,2,3,6,7,25]
theorem ok_Body17 (p:Prog)(h:p.Sm)(st:Bool)(i:Nat)(d:Decl)(hd:p.decls[i]? = some d)(h2:d.Two)(hps:d.sig.params.length+1≤sm):CallOK prog 31 [prV p,boolV st,intV i] (rsV (bodyT p st d)):=by
 have hlt:=(List.getElem?_eq_some_iff.1 hd).1
 have g1:¬ (i:Int) < 0:=by omega
 have g2:¬ (i:Int) ≥ (p.decls.length:Int):=by omega
 have hds:=h.decls.2 d (List.mem_of_getElem? hd)
 have hsm:=scope_Sm h st hds h2 hps
 have hsc:=ok_Scope17 p h st d hds h2 hps
 have hft:=ok_Fits16 (scopeT p st d) hsm d.body (ok_Type16 _ hsm d.body hds.body) (typeE_Sm hsm d.body hds.body) d.sig.result hds.sig.result
 unfold bodyT
 generalize fitsT (scopeT p st d) d.sig.result d.body (typeE (scopeT p st d) d.body)=r at *
 generalize scopeT p st d=c at *
 by_cases k3:d.kind=3
 ·rw [if_pos k3]
  have d3:=decide_eq_true k3
  refine cB func31 ?_
  refine sR q2ix ?_
  refine sK fun K1 u1=>?_
  (refine sQ q2ix fun K z=>?_;refine ev2 g1 g2 ?_;refine⟨by omega,_,deR_get hd,rfl,?_⟩;(try simp -implicitDefEqProofs only [EV,Nat.reduceEqDiff,reduceCtorEq,decide_not,d3]);apply z;clear z K)
  refine kI u1 ?_
  clear u1 K1
  (refine sV q2ix fun K z=>?_;refine ci (deR_get hd) ?_;apply z;clear z K)
  (refine sG q2ix [] 9 [] fun K z=>?_;refine ev ?_;refine cc hsc ?_;refine cc hft ?_;apply z;clear z K)
  exact aR
 ·rw [if_neg k3]
  refine cB func31 ?_
  refine sR q2ix ?_
  refine sK fun K1 u1=>?_
  (refine sQ q2ix fun K z=>?_;refine ev2 g1 g2 ?_;refine⟨by omega,_,deR_get hd,rfl,?_⟩;(try refine ev1 k3 ?_);apply z;clear z K)
  refine tI ?_
  refine sR q2ix ?_
  exact aR
structure Prog.Fit (p:Prog):Prop where
 sm:p.Sm
 len:p.decls.length≤100000
 two:∀ d,d∈p.decls→d.Two
 par:∀ d,d∈p.decls→d.sig.params.length+1≤Go.Abs.sm
theorem Sig.count_par (s:Sig)(n:Int)(h0:0≤n)(h:s.count n≤2000):s.params.length≤2000:=by
 unfold Sig.count at h
 obtain⟨a1,a2⟩:=fo_Nn s.formals (n+((s.name.length / 50:Nat):Int))
 obtain⟨b1,b2⟩:=pa_Nn s.params (foCount s.formals (n+((s.name.length / 50:Nat):Int)))
 have c1:=Ty.count_ge s.result (paCount s.params (foCount s.formals (n+((s.name.length / 50:Nat):Int))))
 have:=(b2 (by omega) (by omega)).1
 omega
theorem Decl.count_par (d:Decl)(n:Int)(h0:0≤n)(h:d.count n≤2000):d.sig.params.length≤2000:=by
 unfold Decl.count at h
 generalize hm:n+1+((d.name.length / 50:Nat):Int)+((d.recv.length / 50:Nat):Int)=m at h
 obtain⟨a1,a2⟩:=fo_Nn d.formals m
 obtain⟨b1,b2⟩:=pa_Nn d.fields (foCount d.formals m)
 obtain⟨c1,c2⟩:=si_Nn d.sigs (paCount d.fields (foCount d.formals m))
 obtain⟨e1,e2⟩:=va_sm d.vars (siCount d.sigs (paCount d.fields (foCount d.formals m)))
 generalize hz:vaCount d.vars (siCount d.sigs (paCount d.fields (foCount d.formals m)))=z at *
 unfold Decl.count2 at h
 have g1:=Ex.count_ge d.body (d.sig.count z)
 split at h
 ·exact Sig.count_par d.sig z (by omega) (by omega)
 ·omega
theorem de_par:LSm deCount (fun d=>d.sig.params.length≤2000):=list_sm deCount Decl.count (fun d=>d.sig.params.length≤2000) (fun _=>rfl) (fun _ _ _=>rfl) (fun x k=>(Decl.count_sm x k).1) (fun x k h0 h=>Decl.count_par x k h0 h)
theorem Prog.count_Fit (p:Prog)(h:p.count≤600):p.Fit:=by
 have hn:=Prog.count_Nn p h
 have hs:=Prog.count_sm p h
 refine⟨hs.1,by have:=hs.2;omega,fun d hd=>(hn.decls d hd).two,fun d hd=>?_⟩
 unfold Prog.count at h
 have h1:=Ex.count_ge p.main 0
 obtain⟨a1,a2⟩:=de_par p.decls (p.main.count 0)
 have:=(a2 (by omega) (by omega)).2 d hd
 unfold Go.Abs.sm;omega
abbrev q3ix:List Nat:=[0,1,2,4,5,6,8,13,21,27]
theorem ok_Program17 (p:Prog)(h:p.Fit)(st:Bool):CallOK prog 12 [prV p,boolV st] (rsV (progT p st)):=by
 have hpl:=h.sm.decls.1
 have hm0:(⟨p,st,[],[]⟩:TCtx).Sm:=⟨h.sm,by simp,by simp,by simp,by simp⟩
 have hmt:=ok_Type16 ⟨p,st,[],[]⟩ hm0 p.main h.sm.main
 generalize hR:progT p st=R
 unfold progT at hR
 refine cB func12 ?_
 refine sR q3ix ?_
 (refine AWp.freeze 2 rfl rfl (wk [(1,boolV st),(2,.dptr (prC p) 0),(4,.box 4 0)] [(4,rs0)] ?_))
 refine kR q3ix fun K1 u1=>?_
 refine AWp.block (AWp.forIdx p.decls (X:=Unit) (fun j _=>[(1,boolV st),(2,.dptr (prC p) 0),(4,.box 4 0),(5,intV j)]) (fun _ _=>[(4,rs0)])
  (fun j _=>progL p st (p.decls.drop j) j=R) () hR (by simp [sle,vle,sget,prC]) sB ?_ ?_)
 rotate_left
 ·intro j _ d hd hmem dp tk hlt hI
  have hhd:=ok_Head15 p h.sm h.len j d hd (h.two d hmem)
  have hbo:=ok_Body17 p h.sm st j d hd (h.two d hmem) (h.par d hmem)
  rw [dp,progL] at hI
  refine kR1 hlt q3ix fun K2 u2=>?_
  refine gI u2 ?_
  clear u2 K2
  refine sK fun K2 u2=>?_
  refine AWp.block ?_
  cases ho:headR p j d with
  | some q =>
   rw [ho] at hhd hI
   simp only [rsV,resO,badR] at hhd hI
   refine sC hhd q3ix ?_
   refine kR q3ix fun K3 u3=>?_
   refine AWp.condF rfl (AWp.skip (u3 _ _ ?_))
   clear u3 K3
   refine sR q3ix ?_
   refine AWp.condT rfl ?_
   refine sR q3ix ?_
   rw [← hI]
   exact aR
  | none =>
   rw [ho] at hhd hI
   simp only [rsV,resO,res0] at hhd hI
   generalize bodyT p st d=r at *
   obtain⟨q,b,l⟩:=r
   refine sC hhd q3ix ?_
   refine kR q3ix fun K3 u3=>?_
   refine AWp.condT rfl ?_
   (refine lV q3ix fun K z=>?_;refine cc hbo ?_;apply z;clear z K;try simp only [thenA,])
   refine u3 _ _ ?_
   clear u3 K3
   refine sR q3ix ?_
   cases b with
   | true =>
    rw [if_pos rfl] at hI
    refine AWp.condT rfl ?_
    refine sR q3ix ?_
    rw [← hI]
    exact aR
   | false =>
    rw [if_neg (by simp)] at hI
    refine AWp.condF rfl (AWp.skip (u2 _ _ ?_))
    clear u2 K2
    refine lT q3ix ?_
    exact⟨(),hI,(by simp [sle,vle,sget,prC]),sB⟩
 intro _ hI
 rw [List.drop_length,progL] at hI
 refine kR1 Int.lt_irrefl q3ix fun K2 u2=>?_
 refine AWp.stopK rfl ?_
 simp only [thenA,blockA,if_true]
 refine u1 _ _ ?_
 clear u2 K2 u1 K1
 generalize typeE ⟨p,st,[],[]⟩ p.main=z at *
 obtain⟨x,r⟩:=z
 simp only at hI
 subst hI
 refine sC hmt q3ix ?_
 refine sR q3ix ?_
 exact aR
end Go.Abs
