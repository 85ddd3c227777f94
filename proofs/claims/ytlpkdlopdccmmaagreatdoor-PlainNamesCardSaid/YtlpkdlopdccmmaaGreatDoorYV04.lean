/- infer: wrong, fields, fits, all, literal, variable -/
import Derived.Test.YtlpkdlopdccmmaaGreatDoorYS58
import Derived.Test.YtlpkdlopdccmmaaGreatDoorYAb14
namespace Go.Abs
set_option maxHeartbeats 1000000
set_option linter.unusedSimpArgs false
set_option linter.unusedVariables false
open Go Go.Proofs Tryz
set_option maxRecDepth 100000
set_option maxHeartbeats 4000000
abbrev ckS (c:TCtx):List SV:=[.dptr (tabC c.p) 0,.d (.bool false),.d (.slice (foR c.env)),.d (.slice (paR c.vars))]
abbrev ckV (c:TCtx):SV:=.agg (ckS c)
def toV (z:TO):SV:=.tuple [tyV z.1,.d (errD 4 z.2)]
def fldI (c:TCtx)(x:Ty):List Param:=if findV c.env x < 0 then fieldsT c.p x else []
theorem ok_wrong (e:Ex):CallOK prog 201 [exV e] (toV (noI e.pos)):=by
 refine cB func201 ?_
 refine sR [0,1,2,3] ?_
 refine sC (ok_faultNew 4 e.pos) [0,1,2,3] ?_
 exact aR
abbrev q1tx:List Nat:=[0,1,2,3,4,5,7,15]
theorem ok_ifields (c:TCtx)(h:c.Sm)(x:Ty)(hx:x.Sm):CallOK prog 259 [ckV c,tyV x] (.tuple [.d (.slice (paR (fldI c x))),boolV (structT c x)]):=by
 have hb:=ok_Bound c.env x h.el h.env
 have hf:=ok_TFields c.p h.p x hx
 unfold fldI structT
 by_cases hv:findV c.env x < 0
 ·rw [if_pos hv,decide_eq_true hv,Bool.true_and]
  rw [show boundV c.env x=none by unfold boundV;rw [if_pos hv],bndV] at hb
  refine cB func259 ?_
  refine sR q1tx ?_
  refine kC hb q1tx fun K1 u1=>?_
  refine sR q1tx ?_
  refine kI u1 ?_
  clear u1 K1
  refine sC hf q1tx ?_
  exact aR
 ·rw [if_neg hv,decide_eq_false hv,Bool.false_and]
  obtain⟨f,hf1,_⟩:=findV_get hv
  rw [show boundV c.env x=some f.bound by unfold boundV;rw [if_neg hv,hf1];rfl,bndV] at hb
  refine cB func259 ?_
  refine sR q1tx ?_
  refine kC hb q1tx fun K1 u1=>?_
  refine sR q1tx ?_
  refine tI ?_
  refine sR q1tx ?_
  exact aR
abbrev q2tx:List Nat:=[0,1,2,3,4,5,6,7,8,16,25]
theorem ok_ifits (c:TCtx)(h:c.Sm)(hst:c.strict=false)(e:Ex)(hT:(typeI c e).1.Sm)(hF:CallOK prog 128 [ckV c,exV e] (toV (typeI c e)))(w:Ty)(hw:w.Sm) :
  CallOK prog 195 [ckV c,exV e,tyV w] (.d (errD 4 (fitsI c w e (typeI c e)))):=by
 have hw1:=ok_wrong e
 unfold fitsI
 generalize typeI c e=z at *
 obtain⟨t,o⟩:=z
 have hi:=ok_Implements c.p h.p c.env h.el h.env t w hT hw
 unfold toV at hF hw1
 refine cB func195 ?_
 refine sR q2tx ?_
 refine sC hF q2tx ?_
 cases o with
 | some q =>
  simp only [errD]
  refine kR q2tx fun K1 u1=>?_
  refine tI ?_
  refine sR q2tx ?_
  exact aR
 | none =>
  simp only [errD]
  refine kR q2tx fun K1 u1=>?_
  refine kI u1 ?_
  clear u1 K1
  rcases Bool.eq_false_or_eq_true (implB c.p c.env t w) with b1 | b1
  ·rw [b1] at hi ⊢
   refine kC hi q2tx fun K1 u1=>?_
   refine AWp.condF rfl (AWp.skip (u1 _ _ ?_))
   clear u1 K1
   refine sR q2tx ?_
   exact aR
  ·rw [b1] at hi ⊢
   refine kC hi q2tx fun K1 u1=>?_
   refine AWp.condT rfl ?_
   (refine lV q2tx fun K z=>?_;refine cc hw1 ?_;apply z;clear z K;try simp only [thenA,])
   refine u1 _ _ ?_
   clear u1 K1
   refine sR q2tx ?_
   exact aR
abbrev q3tx:List Nat:=[0,1,2,3,6,7,8,9,10,11,12,13,26]
theorem ok_iall (c:TCtx)(h:c.Sm)(hst:c.strict=false)(l:List Ex)(hl:l.length≤sm)(m:List Param)(hm:l.length≤m.length)
  (hF:∀ k,k∈l→∀ w:Ty,w.Sm→CallOK prog 195 [ckV c,exV k,tyV w] (.d (errD 4 (fitsI c w k (typeI c k))))) (hw:∀ f,f∈m→f.type.Sm) :
  CallOK prog 258 [ckV c,.d (.slice (exR l)),.d (.slice (paR m))] (.d (errD 4 (kidsI c (m.map (·.type)) l (l.map (typeI c))))):=by
 refine cB func258 ?_
 refine sR q3tx ?_
 refine kR q3tx fun K1 u1=>?_
 refine AWp.block (AWp.forIdx l (X:=Unit) (fun j _=>[(0,ckV c),(2,.d (.slice (paR m))),(3,.box 3 0),(10,.d (.slice (exR l))),(11,intV l.length),(12,intV j)]) (fun _ _=>[(3,.cells (ckS c))])
  (fun j _=>kidsI c ((m.drop j).map (·.type)) (l.drop j) ((l.drop j).map (typeI c))=kidsI c (m.map (·.type)) l (l.map (typeI c))) () rfl sS sB ?_ ?_)
 ·intro _ hI
  rw [List.drop_length] at hI
  have hI0:∀ ws:List Ty,kidsI c ws [] []=none:=fun ws=>by cases ws <;> rfl
  rw [List.map_nil,hI0] at hI
  refine sR1 Int.lt_irrefl q3tx ?_
  refine AWp.stop rfl ?_
  simp only [thenA,blockA,if_true]
  refine u1 _ _ ?_
  refine sR q3tx ?_
  rw [← hI,errD]
  exact aR
 ·intro j _ d hd hmem dp tk hlt hI
  have hjl:j < l.length:=by omega
  have hjm:j < m.length:=by omega
  have hf:=List.getElem?_eq_getElem hjm
  generalize m[j]=f at hf
  have hfm:=List.mem_of_getElem? hf
  have hc:=hF d hmem f.type (hw f hfm)
  have hdm:m.drop j=f::m.drop (j+1):=by
   obtain⟨h1,h2⟩:=List.getElem?_eq_some_iff.1 hf
   rw [List.drop_eq_getElem_cons h1,h2]
  rw [dp,hdm,List.map_cons,List.map_cons,kidsI] at hI
  refine sR1 hlt q3tx ?_
  refine AWp.goOn rfl ?_
  refine sK fun K2 u2=>?_
  refine AWp.block ?_
  (refine sV q3tx fun K z=>?_;refine ci (exR_get hd) ?_;apply z;clear z K)
  cases ho:fitsI c f.type d (typeI c d) with
  | none =>
   rw [ho] at hc hI
   simp only [errD] at hc hI
   (refine sG q3tx [] 7 [] fun K z=>?_;refine ev ?_;refine ci (paR_get hf) ?_;refine cc hc ?_;apply z;clear z K)
   refine sR q3tx ?_
   refine AWp.condF rfl (AWp.skip (u2 _ _ ?_))
   clear u2 K2
   refine lT q3tx ?_
   exact⟨(),hI,sS,sB⟩
  | some q =>
   rw [ho] at hc hI
   simp only [errD] at hc hI
   (refine sG q3tx [] 7 [] fun K z=>?_;refine ev ?_;refine ci (paR_get hf) ?_;refine cc hc ?_;apply z;clear z K)
   refine sR q3tx ?_
   refine AWp.condT rfl ?_
   refine sR q3tx ?_
   rw [← hI]
   simp only [errD]
   exact aR
theorem ok_variable1 (e:Ex)(f:Param):CallOK prog 253 [paV f,.dptr (exC e) 0] (boolV (decide (f.name=e.name))):=by
 refine cB func253 ?_
 refine sR [0,1,2,3] ?_
 refine sR [0,1,2,3] ?_
 exact aR
abbrev q4tx:List Nat:=[0,1,2,3,4,5,6,12]
theorem ok_ivar (c:TCtx)(h:c.Sm)(hst:c.strict=false)(e:Ex):CallOK prog 196 [ckV c,exV e] (toV (varI c e)):=by
 have hix:=ok_IndexFuncP 253 [.dptr (exC e) 0] (fun x=>rfl) (fun f=>decide (f.name=e.name)) c.vars h.vl (fun f _=>ok_variable1 e f)
 have hw1:=ok_wrong e
 unfold toV at *
 rcases idxF_cases (fun f:Param=>decide (f.name=e.name)) c.vars with ⟨h1,_⟩ | ⟨j,f,h1,h2,_⟩
 ·have hr:varI c e=noI e.pos:=by
   unfold varI fieldI
   rw [h1]
   split
   ·rw [if_pos (by decide)]
   ·rfl
  rw [hr]
  rw [h1] at hix
  refine cB func196 ?_
  refine sR q4tx ?_
  (refine AWp.freeze 3 rfl rfl (wk [(2,.box 2 0),(3,.dptr (exC e) 0),(4,.box 4 0)] [(2,.cells (ckS c)),(4,ty0C)] ?_))
  refine sC hix q4tx ?_
  refine kR q4tx fun K1 u1=>?_
  refine tI ?_
  refine sC hw1 q4tx ?_
  exact aR
 ·have hj0:¬ (j:Int) < 0:=by omega
  have hr:varI c e=(f.type,none):=by
   unfold varI fieldI
   rw [h1,Int.toNat_natCast,h2]
   simp only
   rw [if_neg hj0]
  rw [hr]
  rw [h1] at hix
  simp only [errD]
  refine cB func196 ?_
  refine sR q4tx ?_
  (refine AWp.freeze 3 rfl rfl (wk [(2,.box 2 0),(3,.dptr (exC e) 0),(4,.box 4 0)] [(2,.cells (ckS c)),(4,ty0C)] ?_))
  refine sC hix q4tx ?_
  refine kR1 hj0 q4tx fun K1 u1=>?_
  refine kI u1 ?_
  clear u1 K1
  (refine sV q4tx fun K z=>?_;refine ci (paR_get h2) ?_;apply z;clear z K)
  exact aR
set_option maxHeartbeats 1000000
set_option maxHeartbeats 4000000
theorem typeI_Sm {c:TCtx} (h:c.Sm):∀ e:Ex,e.Sm→(typeI c e).1.Sm:=by
 intro e
 induction e using Ex.induct with | _ e ih=>?_
 intro he
 rw [typeI_eq]
 unfold typeIN
 split
 ·unfold varI
  split
  ·rename_i f hf
   split
   ·exact ty0_Sm
   ·exact (h.vars f (List.mem_of_getElem? hf)).type
  ·exact ty0_Sm
 split
 ·unfold litI
  split
  ·exact ty0_Sm
  ·split
   ·exact ty0_Sm
   ·unfold orI
    split
    ·exact ty0_Sm
    ·exact he.type
 split
 ·exact ty0_Sm
 split
 ·exact ty0_Sm
 ·rename_i z zs hz
  cases hks:e.kids with
  | nil=>rw [hks] at hz;simp at hz
  | cons v vs =>
   rw [hks] at hz
   simp only [List.map_cons,List.cons.injEq] at hz
   obtain⟨rfl,rfl⟩:=hz
   have hv:=ih v (by rw [hks];simp) (he.kids.2 v (by rw [hks];simp))
   split
   ·exact ty0_Sm
   split
   ·unfold callI
    split
    ·exact ty0_Sm
    ·rename_i s hs
     unfold orI
     split
     ·exact ty0_Sm
     ·have hsm:s∈setT c.p c.env (typeI c v).1:=by
       unfold sigT at hs
       split at hs
       ·cases hs
       ·rename_i s' hs'
        split at hs
        ·cases hs
        ·split at hs
         ·cases hs
         ·split at hs
          ·cases hs
          ·split at hs
           ·cases hs
           ·cases hs;exact List.mem_of_getElem? hs'
      exact (setT_Sm h.p (env:=c.env) h.env hv s hsm).result.subst he.targs.2
   split
   ·unfold selI
    split
    ·exact ty0_Sm
    ·split
     ·rename_i f hf
      split
      ·exact ty0_Sm
      ·exact (fieldsT_Sm h.p hv f (List.mem_of_getElem? hf)).type
     ·exact ty0_Sm
   ·unfold asrtI
    split
    ·exact ty0_Sm
    ·split
     ·exact ty0_Sm
     ·exact he.type
theorem ok_selection1 (e:Ex)(f:Param):CallOK prog 260 [paV f,.dptr (exC e) 0] (boolV (decide (f.name=e.name))):=by
 refine cB func260 ?_
 refine sR [0,1,2,3] ?_
 refine sR [0,1,2,3] ?_
 exact aR
def onI (z:TO)(f:Ty→TO):TO:=match z.2 with
 | some q=>noI q
 | none=>f z.1
abbrev q1ux:List Nat:=[0,1,2,3,4,5,6,7,8,10,21,34]
theorem ok_isel (c:TCtx)(h:c.Sm)(hst:c.strict=false)(e:Ex)(he:e.Sm)(k:Ex)(h0:e.kids[0]? = some k)(hF:CallOK prog 128 [ckV c,exV k] (toV (typeI c k))) :
  CallOK prog 199 [ckV c,exV e] (toV (onI (typeI c k) (selI c e))):=by
 have hx:=typeI_Sm h k (he.kids.2 k (List.mem_of_getElem? h0))
 have hw1:=ok_wrong e
 generalize typeI c k=z at *
 obtain⟨x,o⟩:=z
 have hfl:=ok_ifields c h x hx
 have hl1:(fldI c x).length≤sm:=by
  unfold fldI;split
  ·exact fieldsT_len h.p x
  ·simp
 have hix:=ok_IndexFuncP 260 [.dptr (exC e) 0] (fun x=>rfl) (fun f=>decide (f.name=e.name)) (fldI c x) hl1 (fun f _=>ok_selection1 e f)
 unfold toV at *
 cases o with
 | some q =>
  simp only [onI,errD] at *
  refine cB func199 ?_
  refine sR q1ux ?_
  (refine AWp.freeze 3 rfl rfl (wk [(2,.box 2 0),(3,.dptr (exC e) 0),(4,.box 4 0)] [(2,.cells (ckS c)),(4,ty0C)] ?_))
  (refine sG q1ux [6] 11 [⟨[],[],[6],[6]⟩,⟨[],[],[6],[6]⟩,⟨[],[],[6],[6]⟩,⟨[],[],[6],[6]⟩,⟨[],[],[6],[6]⟩,⟨[],[],[6],[6]⟩,⟨[],[],[6],[6]⟩,⟨[],[],[6],[6]⟩,⟨[],[],[6],[6]⟩,⟨[6],[6],[],[]⟩,⟨[6],[],[],[]⟩] fun K z=>?_;refine ev ?_;refine cj (exR_get h0) ?_;refine cc hF ?_;apply z;clear z K)
  refine kR q1ux fun K1 u1=>?_
  refine tI ?_
  refine sR q1ux ?_
  exact aR
 | none =>
  simp only [onI,errD] at *
  generalize hR:selI c e x=R
  unfold selI fieldI at hR
  have hcases:(R=noI e.pos∧idxF (fun f:Param=>decide (f.name=e.name)) (fldI c x) = -1)∨∃ (j:Nat) (f:Param),idxF (fun f:Param=>decide (f.name=e.name)) (fldI c x)=j∧(fldI c x)[j]? = some f∧R=(f.type,none):=by
   rcases Bool.eq_false_or_eq_true (structT c x) with b1 | b1
   ·rw [b1,if_neg (by simp)] at hR
    have hf0:fldI c x=fieldsT c.p x:=by
     unfold structT at b1
     rw [Bool.and_eq_true,decide_eq_true_eq] at b1
     unfold fldI;rw [if_pos b1.1]
    rw [hf0]
    rcases idxF_cases (fun f:Param=>decide (f.name=e.name)) (fieldsT c.p x) with ⟨h1,_⟩ | ⟨j,f,h1,h2,_⟩
    ·refine .inl ⟨?_,h1⟩
     rw [← hR,h1]
     split
     ·rw [if_pos (by decide)]
     ·rfl
    ·have hj0:¬ (j:Int) < 0:=by omega
     refine .inr ⟨j,f,h1,h2,?_⟩
     rw [← hR,h1,Int.toNat_natCast,h2]
     simp only
     rw [if_neg hj0]
   ·rw [b1,if_pos rfl] at hR
    have hf0:fldI c x=[]:=by
     unfold fldI structT at *
     split
     ·rename_i hv
      rw [decide_eq_true hv,Bool.true_and] at b1
      unfold fieldsT;rw [b1];simp
     ·rfl
    exact .inl ⟨hR.symm,by rw [hf0];simp [idxF]⟩
  generalize fldI c x=l at *
  generalize structT c x=stb at *
  rcases hcases with ⟨rfl,h1⟩ | ⟨j,f,h1,h2,rfl⟩
  ·rw [h1] at hix
   refine cB func199 ?_
   refine sR q1ux ?_
   (refine AWp.freeze 3 rfl rfl (wk [(2,.box 2 0),(3,.dptr (exC e) 0),(4,.box 4 0)] [(2,.cells (ckS c)),(4,ty0C)] ?_))
   (refine sG q1ux [6] 11 [⟨[],[],[6],[6]⟩,⟨[],[],[6],[6]⟩,⟨[],[],[6],[6]⟩,⟨[],[],[6],[6]⟩,⟨[],[],[6],[6]⟩,⟨[],[],[6],[6]⟩,⟨[],[],[6],[6]⟩,⟨[],[],[6],[6]⟩,⟨[],[],[6],[6]⟩,⟨[6],[6],[],[]⟩,⟨[6],[],[],[]⟩] fun K z=>?_;refine ev ?_;refine cj (exR_get h0) ?_;refine cc hF ?_;apply z;clear z K)
   refine kR q1ux fun K1 u1=>?_
   refine kI u1 ?_
   clear u1 K1
   refine sC hfl q1ux ?_
   refine sC hix q1ux ?_
   refine kR q1ux fun K1 u1=>?_
   refine tI ?_
   refine sC hw1 q1ux ?_
   exact aR
  ·rw [h1] at hix
   have hj0:¬ (j:Int) < 0:=by omega
   refine cB func199 ?_
   refine sR q1ux ?_
   (refine AWp.freeze 3 rfl rfl (wk [(2,.box 2 0),(3,.dptr (exC e) 0),(4,.box 4 0)] [(2,.cells (ckS c)),(4,ty0C)] ?_))
   (refine sG q1ux [6] 11 [⟨[],[],[6],[6]⟩,⟨[],[],[6],[6]⟩,⟨[],[],[6],[6]⟩,⟨[],[],[6],[6]⟩,⟨[],[],[6],[6]⟩,⟨[],[],[6],[6]⟩,⟨[],[],[6],[6]⟩,⟨[],[],[6],[6]⟩,⟨[],[],[6],[6]⟩,⟨[6],[6],[],[]⟩,⟨[6],[],[],[]⟩] fun K z=>?_;refine ev ?_;refine cj (exR_get h0) ?_;refine cc hF ?_;apply z;clear z K)
   refine kR q1ux fun K1 u1=>?_
   refine kI u1 ?_
   clear u1 K1
   refine sC hfl q1ux ?_
   refine sC hix q1ux ?_
   refine kR1 hj0 q1ux fun K1 u1=>?_
   refine kI u1 ?_
   clear u1 K1
   (refine sV q1ux fun K z=>?_;refine ci (paR_get h2) ?_;apply z;clear z K)
   exact aR
abbrev q2ux:List Nat:=[0,1,2,3,4,5,6,7,18,27,39]
theorem ok_iasrt (c:TCtx)(h:c.Sm)(hst:c.strict=false)(e:Ex)(he:e.Sm)(k:Ex)(h0:e.kids[0]? = some k)(hF:CallOK prog 128 [ckV c,exV k] (toV (typeI c k))) :
  CallOK prog 200 [ckV c,exV e] (toV (onI (typeI c k) (asrtI c e))):=by
 have hck:=ok_CCheck c.p h.p c.env h.el h.env e.type he.type
 generalize typeI c k=z at *
 obtain⟨x,o⟩:=z
 unfold toV at *
 cases o with
 | some q =>
  simp only [onI,errD] at *
  refine cB func200 ?_
  refine sR q2ux ?_
  (refine AWp.freeze 3 rfl rfl (wk [(2,.box 2 0),(3,.dptr (exC e) 0),(4,.box 4 0)] [(2,.cells (ckS c)),(4,ty0C)] ?_))
  (refine sG q2ux [6] 11 [⟨[],[],[6],[6]⟩,⟨[],[],[6],[6]⟩,⟨[],[],[6],[6]⟩,⟨[],[],[6],[6]⟩,⟨[],[],[6],[6]⟩,⟨[],[],[6],[6]⟩,⟨[],[],[6],[6]⟩,⟨[],[],[6],[6]⟩,⟨[],[],[6],[6]⟩,⟨[6],[6],[],[]⟩,⟨[6],[],[],[]⟩] fun K z=>?_;refine ev ?_;refine cj (exR_get h0) ?_;refine cc hF ?_;apply z;clear z K)
  refine kR q2ux fun K1 u1=>?_
  refine AWp.condF rfl (AWp.skip (u1 _ _ ?_))
  clear u1 K1
  refine kR q2ux fun K1 u1=>?_
  refine tI ?_
  refine sR q2ux ?_
  exact aR
 | none =>
  simp only [onI,errD] at hF ⊢
  generalize hR:asrtI c e x=R
  unfold asrtI at hR
  cases hc:chk c.p c.env e.type with
  | some q =>
   rw [hc] at hR hck
   obtain rfl:R=noI q:=hR.symm
   simp only [errD,noI] at hck ⊢
   refine cB func200 ?_
   refine sR q2ux ?_
   (refine AWp.freeze 3 rfl rfl (wk [(2,.box 2 0),(3,.dptr (exC e) 0),(4,.box 4 0)] [(2,.cells (ckS c)),(4,ty0C)] ?_))
   (refine sG q2ux [6] 11 [⟨[],[],[6],[6]⟩,⟨[],[],[6],[6]⟩,⟨[],[],[6],[6]⟩,⟨[],[],[6],[6]⟩,⟨[],[],[6],[6]⟩,⟨[],[],[6],[6]⟩,⟨[],[],[6],[6]⟩,⟨[],[],[6],[6]⟩,⟨[],[],[6],[6]⟩,⟨[6],[6],[],[]⟩,⟨[6],[],[],[]⟩] fun K z=>?_;refine ev ?_;refine cj (exR_get h0) ?_;refine cc hF ?_;apply z;clear z K)
   refine kR q2ux fun K1 u1=>?_
   refine AWp.condT rfl ?_
   (refine lV q2ux fun K z=>?_;refine cc hck ?_;apply z;clear z K;try simp only [thenA,])
   refine u1 _ _ ?_
   clear u1 K1
   refine kR q2ux fun K1 u1=>?_
   refine tI ?_
   refine sR q2ux ?_
   exact aR
  | none =>
   rw [hc] at hR hck
   obtain rfl:R=(e.type,none):=by rw [← hR];simp [hst]
   simp only [errD] at hck ⊢
   refine cB func200 ?_
   refine sR q2ux ?_
   (refine AWp.freeze 3 rfl rfl (wk [(2,.box 2 0),(3,.dptr (exC e) 0),(4,.box 4 0)] [(2,.cells (ckS c)),(4,ty0C)] ?_))
   (refine sG q2ux [6] 11 [⟨[],[],[6],[6]⟩,⟨[],[],[6],[6]⟩,⟨[],[],[6],[6]⟩,⟨[],[],[6],[6]⟩,⟨[],[],[6],[6]⟩,⟨[],[],[6],[6]⟩,⟨[],[],[6],[6]⟩,⟨[],[],[6],[6]⟩,⟨[],[],[6],[6]⟩,⟨[6],[6],[],[]⟩,⟨[6],[],[],[]⟩] fun K z=>?_;refine ev ?_;refine cj (exR_get h0) ?_;refine cc hF ?_;apply z;clear z K)
   refine kR q2ux fun K1 u1=>?_
   refine AWp.condT rfl ?_
   (refine lV q2ux fun K z=>?_;refine cc hck ?_;apply z;clear z K;try simp only [thenA,])
   refine u1 _ _ ?_
   clear u1 K1
   refine kR q2ux fun K1 u1=>?_
   refine kI u1 ?_
   clear u1 K1
   refine kR q2ux fun K1 u1=>?_
   refine kI u1 ?_
   clear u1 K1
   refine sR q2ux ?_
   exact aR
theorem ok_mfind (p:Prog)(h:p.Sm)(env:List Formal)(hel:env.length≤sm)(he:∀ f,f∈env→f.Sm)(x:Ty)(hx:x.Sm)(nm:Str) :
  CallOK prog 254 [.dptr (tabC p) 0,.d (.slice (foR env)),tyV x,strV nm] (pickR (setT p env x) nm):=by
 have hs:=ok_Set p h env hel he x hx
 have hp:=ok_pick (setT p env x) (setT_len h env x) nm
 unfold pickR at *
 by_cases hn:nameI (setT p env x) nm < 0
 ·rw [if_pos hn] at hp ⊢
  refine cB func254 ?_
  refine sR [0,1,2,3,6,8,9] ?_
  (refine sV [0,1,2,3,6,8,9] fun K z=>?_;refine cc hs ?_;refine cc hp ?_;apply z;clear z K)
  exact aR
 ·rw [if_neg hn] at hp ⊢
  generalize ((setT p env x)[(nameI (setT p env x) nm).toNat]?).getD sig0=s at *
  refine cB func254 ?_
  refine sR [0,1,2,3,6,8,9] ?_
  (refine sV [0,1,2,3,6,8,9] fun K z=>?_;refine cc hs ?_;refine cc hp ?_;apply z;clear z K)
  exact aR
theorem ok_bapply (s:Sig)(h:s.Sm)(args:List Ty)(hl:s.formals.length=args.length)(ha:∀ u,u∈args→u.Sm) :
  CallOK prog 257 [siV s,tysV args] (.tuple [siV (s.subst (s.formals.map (·.name)) args),boolV true]):=by
 have hnm:=ok_Names s.formals h.formals.1
 have hsb:=ok_BSubst (s.formals.map (·.name)) args ha s h
 have hl':(s.formals.length:Int)=(args.length:Int):=by omega
 generalize s.subst (s.formals.map (·.name)) args=s' at *
 refine cB func257 ?_
 refine sR [0,1,2,4,5,11] ?_
 refine kR1 hl' [0,1,2,4,5,11] fun K1 u1=>?_
 refine kI u1 ?_
 clear u1 K1
 (refine sG [0,1,2,4,5,11] [] 5 [] fun K z=>?_;refine ev ?_;refine cc hnm ?_;refine cc hsb ?_;apply z;clear z K)
 exact aR
set_option maxHeartbeats 1000000
set_option maxHeartbeats 4000000
def RuleOK (f:FuncId)(c:TCtx)(e:Ex)(z:TO):Prop:=∃ t,(z.2=none→t=z.1)∧CallOK prog f [ckV c,exV e] (.tuple [tyV t,.d (errD 4 z.2)])
theorem RuleOK.of {f:FuncId} {c:TCtx} {e:Ex} {z:TO} (h:CallOK prog f [ckV c,exV e] (toV z)):RuleOK f c e z:=⟨z.1,fun _=>rfl,h⟩
abbrev q1vx:List Nat:=[0,1,2,3,4,5,6,7,8,17,36]
theorem ok_ilit (c:TCtx)(h:c.Sm)(hst:c.strict=false)(e:Ex)(he:e.Sm)
  (hF:∀ k,k∈e.kids→∀ w:Ty,w.Sm→CallOK prog 195 [ckV c,exV k,tyV w] (.d (errD 4 (fitsI c w k (typeI c k))))) :
  RuleOK 198 c e (litI c e (e.kids.map (typeI c))):=by
 have hw1:=ok_wrong e
 have hck:=ok_CCheck c.p h.p c.env h.el h.env e.type he.type
 have hfl:=ok_ifields c h e.type he.type
 have hkl:=he.kids.1
 unfold toV at hw1
 generalize hR:litI c e (e.kids.map (typeI c))=R
 unfold litI at hR
 have hf0:structT c e.type=true→fldI c e.type=fieldsT c.p e.type:=fun b1=>by
  unfold structT at b1
  rw [Bool.and_eq_true,decide_eq_true_eq] at b1
  unfold fldI;rw [if_pos b1.1]
 cases hc:chk c.p c.env e.type with
 | some q =>
  rw [hc] at hR hck
  obtain rfl:R=noI q:=hR.symm
  refine RuleOK.of ?_
  simp only [toV,errD,noI] at hck ⊢
  refine cB func198 ?_
  refine sR q1vx ?_
  (refine AWp.freeze 3 rfl rfl (wk [(2,.box 2 0),(3,.dptr (exC e) 0),(4,.box 4 0)] [(2,.cells (ckS c)),(4,ty0C)] ?_))
  refine kC hck q1vx fun K1 u1=>?_
  refine sR q1vx ?_
  refine tI ?_
  refine sR q1vx ?_
  exact aR
 | none =>
  rw [hc] at hR hck
  simp only [errD] at hR hck
  by_cases hbad:structT c e.type=false∨(fieldsT c.p e.type).length≠e.kids.length
  ·rw [if_pos hbad] at hR
   obtain rfl:R=noI e.pos:=hR.symm
   refine RuleOK.of ?_
   simp only [toV]
   rcases Bool.eq_false_or_eq_true (structT c e.type) with b1 | b1
   ·rw [b1,hf0 b1] at hfl
    have hl:¬ ((fieldsT c.p e.type).length:Int)=(e.kids.length:Int):=by
     rcases hbad with hb | hb
     ·rw [b1] at hb;cases hb
     ·omega
    refine cB func198 ?_
    refine sR q1vx ?_
    (refine AWp.freeze 3 rfl rfl (wk [(2,.box 2 0),(3,.dptr (exC e) 0),(4,.box 4 0)] [(2,.cells (ckS c)),(4,ty0C)] ?_))
    refine kC hck q1vx fun K1 u1=>?_
    refine sR q1vx ?_
    refine kI u1 ?_
    clear u1 K1
    refine sC hfl q1vx ?_
    refine kR1 hl q1vx fun K1 u1=>?_
    refine tI ?_
    refine sC hw1 q1vx ?_
    exact aR
   ·rw [b1] at hfl
    generalize fldI c e.type=fl at *
    refine cB func198 ?_
    refine sR q1vx ?_
    (refine AWp.freeze 3 rfl rfl (wk [(2,.box 2 0),(3,.dptr (exC e) 0),(4,.box 4 0)] [(2,.cells (ckS c)),(4,ty0C)] ?_))
    refine kC hck q1vx fun K1 u1=>?_
    refine sR q1vx ?_
    refine kI u1 ?_
    clear u1 K1
    refine sC hfl q1vx ?_
    refine kR q1vx fun K1 u1=>?_
    refine tI ?_
    refine sC hw1 q1vx ?_
    exact aR
  ·rw [if_neg hbad] at hR
   have b1:structT c e.type=true:=by
    rcases Bool.eq_false_or_eq_true (structT c e.type) with b | b
    ·exact b
    ·exact (hbad (.inl b)).elim
   have hle:(fieldsT c.p e.type).length=e.kids.length:=Classical.byContradiction fun hh=>hbad (.inr hh)
   have hl:((fieldsT c.p e.type).length:Int)=(e.kids.length:Int):=by omega
   have hall:=ok_iall c h hst e.kids hkl (fieldsT c.p e.type) (by omega) hF (fun f hf=>(fieldsT_Sm h.p he.type f hf).type)
   rw [b1,hf0 b1] at hfl
   unfold orI at hR
   generalize kidsI c ((fieldsT c.p e.type).map (·.type)) e.kids (e.kids.map (typeI c))=o at *
   cases o with
   | some q =>
    obtain rfl:R=noI q:=hR.symm
    refine⟨e.type,(by intro hh;cases hh),?_⟩
    simp only [errD,noI] at hall ⊢
    refine cB func198 ?_
    refine sR q1vx ?_
    (refine AWp.freeze 3 rfl rfl (wk [(2,.box 2 0),(3,.dptr (exC e) 0),(4,.box 4 0)] [(2,.cells (ckS c)),(4,ty0C)] ?_))
    refine kC hck q1vx fun K1 u1=>?_
    refine sR q1vx ?_
    refine kI u1 ?_
    clear u1 K1
    refine sC hfl q1vx ?_
    refine kR1 hl q1vx fun K1 u1=>?_
    refine kI u1 ?_
    clear u1 K1
    (refine sG q1vx [] 7 [] fun K z=>?_;refine ev ?_;refine cc hall ?_;apply z;clear z K)
    exact aR
   | none =>
    obtain rfl:R=(e.type,none):=hR.symm
    refine RuleOK.of ?_
    simp only [toV,errD] at hall ⊢
    refine cB func198 ?_
    refine sR q1vx ?_
    (refine AWp.freeze 3 rfl rfl (wk [(2,.box 2 0),(3,.dptr (exC e) 0),(4,.box 4 0)] [(2,.cells (ckS c)),(4,ty0C)] ?_))
    refine kC hck q1vx fun K1 u1=>?_
    refine sR q1vx ?_
    refine kI u1 ?_
    clear u1 K1
    refine sC hfl q1vx ?_
    refine kR1 hl q1vx fun K1 u1=>?_
    refine kI u1 ?_
    clear u1 K1
    (refine sG q1vx [] 7 [] fun K z=>?_;refine ev ?_;refine cc hall ?_;apply z;clear z K)
    exact aR
abbrev q2vx:List Nat:=[0,1,2,3,4,5,6,7,8,9,10,11,22,46,59,72,95]
theorem ok_icall (c:TCtx)(h:c.Sm)(hst:c.strict=false)(e:Ex)(he:e.Sm)(k:Ex)(h0:e.kids[0]? = some k)(hF0:CallOK prog 128 [ckV c,exV k] (toV (typeI c k)))
  (hF:∀ k,k∈e.kids.tail→∀ w:Ty,w.Sm→CallOK prog 195 [ckV c,exV k,tyV w] (.d (errD 4 (fitsI c w k (typeI c k))))) :
  RuleOK 197 c e (onI (typeI c k) fun x=>callI c e x (e.kids.tail.map (typeI c))):=by
 have hx:=typeI_Sm h k (he.kids.2 k (List.mem_of_getElem? h0))
 have hw1:=ok_wrong e
 have hkl:=he.kids.1
 have htl:=he.targs.1
 generalize typeI c k=z at *
 obtain⟨x,o⟩:=z
 have hfind:=ok_mfind c.p h.p c.env h.el h.env x hx e.name
 have hss:=setT_Sm h.p (env:=c.env) h.env hx
 have hat:∀ (j:Nat) (s:Sig),nameI (setT c.p c.env x) e.name=j→(setT c.p c.env x)[j]? = some s→sigT c e x=if s.formals.length≠e.targs.length then .inl e.pos else
  match chkL c.p c.env e.targs with
  | some q=>.inl q
  | none=>if 0≤boundsI c.p c.env s.formals e.targs then .inl ((e.targs[(boundsI c.p c.env s.formals e.targs).toNat]?).getD default).pos else
   if e.kids.length≠s.params.length+1 then .inl e.pos else .inr s:=fun j s h1 h2=>sigT_at h1 h2
 have hneg:nameI (setT c.p c.env x) e.name = -1→sigT c e x=.inl e.pos:=fun h=>by
  unfold sigT
  rw [h]
  split
  ·rfl
  ·rw [if_pos (.inl (by decide))]
 have hidx:=idxF_cases (fun s:Sig=>decide (s.name=e.name)) (setT c.p c.env x)
 unfold toV at hF0 hw1
 unfold onI
 cases o with
 | some q =>
  refine RuleOK.of ?_
  simp only [toV,errD,noI] at hF0 ⊢
  refine cB func197 ?_
  refine sR q2vx ?_
  (refine AWp.freeze 3 rfl rfl (wk [(2,.box 2 0),(3,.dptr (exC e) 0),(4,.box 4 0)] [(2,.cells (ckS c)),(4,ty0C)] ?_))
  (refine sG q2vx [6] 11 [⟨[],[],[6],[6]⟩,⟨[],[],[6],[6]⟩,⟨[],[],[6],[6]⟩,⟨[],[],[6],[6]⟩,⟨[],[],[6],[6]⟩,⟨[],[],[6],[6]⟩,⟨[],[],[6],[6]⟩,⟨[],[],[6],[6]⟩,⟨[],[],[6],[6]⟩,⟨[6],[6],[],[]⟩,⟨[6],[],[],[]⟩] fun K z=>?_;refine ev ?_;refine cj (exR_get h0) ?_;refine cc hF0 ?_;apply z;clear z K)
  refine kR q2vx fun K1 u1=>?_
  refine tI ?_
  refine sR q2vx ?_
  exact aR
 | none =>
  simp only [errD] at hF0 ⊢
  generalize hR:callI c e x (e.kids.tail.map (typeI c))=R
  unfold callI at hR
  have hno:sigT c e x=.inl e.pos→R=noI e.pos:=fun h=>by rw [← hR,h]
  unfold nameI at hat hneg
  unfold pickR nameI at hfind
  generalize setT c.p c.env x=l at *
  rcases hidx with ⟨h1,_⟩ | ⟨j,s,h1,h2,_⟩
  ·rw [h1,if_pos (by decide)] at hfind
   obtain rfl:=hno (hneg h1)
   refine RuleOK.of ?_
   simp only [toV]
   refine cB func197 ?_
   refine sR q2vx ?_
   (refine AWp.freeze 3 rfl rfl (wk [(2,.box 2 0),(3,.dptr (exC e) 0),(4,.box 4 0)] [(2,.cells (ckS c)),(4,ty0C)] ?_))
   (refine sG q2vx [6] 11 [⟨[],[],[6],[6]⟩,⟨[],[],[6],[6]⟩,⟨[],[],[6],[6]⟩,⟨[],[],[6],[6]⟩,⟨[],[],[6],[6]⟩,⟨[],[],[6],[6]⟩,⟨[],[],[6],[6]⟩,⟨[],[],[6],[6]⟩,⟨[],[],[6],[6]⟩,⟨[6],[6],[],[]⟩,⟨[6],[],[],[]⟩] fun K z=>?_;refine ev ?_;refine cj (exR_get h0) ?_;refine cc hF0 ?_;apply z;clear z K)
   refine kR q2vx fun K1 u1=>?_
   refine kI u1 ?_
   clear u1 K1
   refine sC hfind q2vx ?_
   refine kR q2vx fun K1 u1=>?_
   refine tI ?_
   refine sC hw1 q2vx ?_
   exact aR
  have hsig:=hat j s h1 h2
  have hs:=hss s (List.mem_of_getElem? h2)
  have hj0:¬ (j:Int) < 0:=by omega
  rw [h1,if_neg hj0,Int.toNat_natCast,h2,Option.getD_some] at hfind
  by_cases hfl:s.formals.length=e.targs.length
  rotate_left
  ·rw [if_pos hfl] at hsig
   obtain rfl:=hno hsig
   have hfl':¬ (s.formals.length:Int)=(e.targs.length:Int):=by omega
   refine RuleOK.of ?_
   simp only [toV]
   refine cB func197 ?_
   refine sR q2vx ?_
   (refine AWp.freeze 3 rfl rfl (wk [(2,.box 2 0),(3,.dptr (exC e) 0),(4,.box 4 0)] [(2,.cells (ckS c)),(4,ty0C)] ?_))
   (refine sG q2vx [6] 11 [⟨[],[],[6],[6]⟩,⟨[],[],[6],[6]⟩,⟨[],[],[6],[6]⟩,⟨[],[],[6],[6]⟩,⟨[],[],[6],[6]⟩,⟨[],[],[6],[6]⟩,⟨[],[],[6],[6]⟩,⟨[],[],[6],[6]⟩,⟨[],[],[6],[6]⟩,⟨[6],[6],[],[]⟩,⟨[6],[],[],[]⟩] fun K z=>?_;refine ev ?_;refine cj (exR_get h0) ?_;refine cc hF0 ?_;apply z;clear z K)
   refine kR q2vx fun K1 u1=>?_
   refine kI u1 ?_
   clear u1 K1
   refine sC hfind q2vx ?_
   refine kR1 hfl' q2vx fun K1 u1=>?_
   refine tI ?_
   refine sC hw1 q2vx ?_
   exact aR
  rw [if_neg fun hh=>hh hfl] at hsig
  have hfl':(s.formals.length:Int)=(e.targs.length:Int):=by omega
  have hca:=ok_CAll c.p c.env e.targs htl (fun t ht=>ok_CCheck c.p h.p c.env h.el h.env t (he.targs.2 t ht))
  cases hck:chkL c.p c.env e.targs with
  | some q =>
   rw [hck] at hsig hca
   simp only at hsig
   obtain rfl:R=noI q:=by rw [← hR,hsig]
   refine RuleOK.of ?_
   simp only [toV,errD,noI] at hca ⊢
   refine cB func197 ?_
   refine sR q2vx ?_
   (refine AWp.freeze 3 rfl rfl (wk [(2,.box 2 0),(3,.dptr (exC e) 0),(4,.box 4 0)] [(2,.cells (ckS c)),(4,ty0C)] ?_))
   (refine sG q2vx [6] 11 [⟨[],[],[6],[6]⟩,⟨[],[],[6],[6]⟩,⟨[],[],[6],[6]⟩,⟨[],[],[6],[6]⟩,⟨[],[],[6],[6]⟩,⟨[],[],[6],[6]⟩,⟨[],[],[6],[6]⟩,⟨[],[],[6],[6]⟩,⟨[],[],[6],[6]⟩,⟨[6],[6],[],[]⟩,⟨[6],[],[],[]⟩] fun K z=>?_;refine ev ?_;refine cj (exR_get h0) ?_;refine cc hF0 ?_;apply z;clear z K)
   refine kR q2vx fun K1 u1=>?_
   refine kI u1 ?_
   clear u1 K1
   refine sC hfind q2vx ?_
   refine kR1 hfl' q2vx fun K1 u1=>?_
   refine kI u1 ?_
   clear u1 K1
   refine kC hca q2vx fun K1 u1=>?_
   refine sR q2vx ?_
   refine tI ?_
   refine sR q2vx ?_
   exact aR
  | none =>
  rw [hck] at hsig hca
  simp only at hsig
  simp only [errD] at hca
  have hbo:=ok_Bounds c.p h.p c.env h.el h.env s.formals hs.formals.1 hs.formals.2 e.targs hfl.symm he.targs.2
  have hbg:=@bounds_get c.p c.env s.formals e.targs
  generalize boundsI c.p c.env s.formals e.targs=b at *
  by_cases hb0:0≤b
  ·obtain⟨u,hu⟩:=hbg hb0 hfl.symm
   rw [if_pos hb0,hu,Option.getD_some] at hsig
   obtain rfl:R=noI u.pos:=by rw [← hR,hsig]
   have hfn:=ok_faultNew 4 u.pos
   refine RuleOK.of ?_
   simp only [toV,noI]
   refine cB func197 ?_
   refine sR q2vx ?_
   (refine AWp.freeze 3 rfl rfl (wk [(2,.box 2 0),(3,.dptr (exC e) 0),(4,.box 4 0)] [(2,.cells (ckS c)),(4,ty0C)] ?_))
   (refine sG q2vx [6] 11 [⟨[],[],[6],[6]⟩,⟨[],[],[6],[6]⟩,⟨[],[],[6],[6]⟩,⟨[],[],[6],[6]⟩,⟨[],[],[6],[6]⟩,⟨[],[],[6],[6]⟩,⟨[],[],[6],[6]⟩,⟨[],[],[6],[6]⟩,⟨[],[],[6],[6]⟩,⟨[6],[6],[],[]⟩,⟨[6],[],[],[]⟩] fun K z=>?_;refine ev ?_;refine cj (exR_get h0) ?_;refine cc hF0 ?_;apply z;clear z K)
   refine kR q2vx fun K1 u1=>?_
   refine kI u1 ?_
   clear u1 K1
   refine sC hfind q2vx ?_
   refine kR1 hfl' q2vx fun K1 u1=>?_
   refine kI u1 ?_
   clear u1 K1
   refine kC hca q2vx fun K1 u1=>?_
   refine sR q2vx ?_
   refine kI u1 ?_
   clear u1 K1
   refine kC hbo q2vx fun K1 u1=>?_
   refine sR1 hb0 q2vx ?_
   refine tI ?_
   (refine sV q2vx fun K z=>?_;refine ci (tyR_get hu) ?_;refine cc hfn ?_;apply z;clear z K)
   exact aR
  rw [if_neg hb0] at hsig
  have hpl:=hs.params.1
  have hap:=ok_bapply s hs e.targs hfl he.targs.2
  have hpt:(s.subst (s.formals.map (·.name)) e.targs).params.map (·.type)=parTs s e.targs:=by simp [Sig.subst,Param.subst,parTs,fnames]
  have hres:(s.subst (s.formals.map (·.name)) e.targs).result=s.result.subst (fnames s.formals) e.targs:=rfl
  have hplen:(s.subst (s.formals.map (·.name)) e.targs).params.length=s.params.length:=by simp [Sig.subst]
  have hpS:∀ f,f∈(s.subst (s.formals.map (·.name)) e.targs).params→f.type.Sm:=by
   intro f hf
   simp only [Sig.subst] at hf
   obtain⟨g,hg,rfl⟩:=List.mem_map.1 hf
   exact (hs.params.2 g hg).type.subst he.targs.2
  generalize s.subst (s.formals.map (·.name)) e.targs=s' at *
  by_cases hkl2:e.kids.length=s.params.length+1
  rotate_left
  ·rw [if_pos hkl2] at hsig
   obtain rfl:=hno hsig
   have hkl':¬ (e.kids.length:Int) - 1=(s'.params.length:Int):=by omega
   refine RuleOK.of ?_
   simp only [toV]
   refine cB func197 ?_
   refine sR q2vx ?_
   (refine AWp.freeze 3 rfl rfl (wk [(2,.box 2 0),(3,.dptr (exC e) 0),(4,.box 4 0)] [(2,.cells (ckS c)),(4,ty0C)] ?_))
   (refine sG q2vx [6] 11 [⟨[],[],[6],[6]⟩,⟨[],[],[6],[6]⟩,⟨[],[],[6],[6]⟩,⟨[],[],[6],[6]⟩,⟨[],[],[6],[6]⟩,⟨[],[],[6],[6]⟩,⟨[],[],[6],[6]⟩,⟨[],[],[6],[6]⟩,⟨[],[],[6],[6]⟩,⟨[6],[6],[],[]⟩,⟨[6],[],[],[]⟩] fun K z=>?_;refine ev ?_;refine cj (exR_get h0) ?_;refine cc hF0 ?_;apply z;clear z K)
   refine kR q2vx fun K1 u1=>?_
   refine kI u1 ?_
   clear u1 K1
   refine sC hfind q2vx ?_
   refine kR1 hfl' q2vx fun K1 u1=>?_
   refine kI u1 ?_
   clear u1 K1
   refine kC hca q2vx fun K1 u1=>?_
   refine sR q2vx ?_
   refine kI u1 ?_
   clear u1 K1
   refine kC hbo q2vx fun K1 u1=>?_
   refine sR1 hb0 q2vx ?_
   refine kI u1 ?_
   clear u1 K1
   refine sC hap q2vx ?_
   refine sK fun K1 u1=>?_
   (refine sQ q2vx fun K z=>?_;refine ev1 hkl' ?_;refine⟨by first | (unfold InR;omega) | (simp only [InR,sm] at *;omega),?_⟩;(try refine ev1 hkl' ?_);apply z;clear z K)
   refine tI ?_
   refine sC hw1 q2vx ?_
   exact aR
  rw [if_neg fun hh=>hh hkl2] at hsig
  have hkl':(e.kids.length:Int) - 1=(s'.params.length:Int):=by omega
  rw [hsig] at hR
  simp only at hR
  have hall:=ok_iall c h hst e.kids.tail (by rw [List.length_tail];omega) s'.params (by rw [List.length_tail];omega) hF hpS
  have hex:exR e.kids.tail=((exR e.kids).take e.kids.length).drop 1:=by rw [List.take_of_length_le (by rw [exR_len];exact Nat.le_refl _),exR_map,exR_map,← List.map_drop,List.drop_one]
  rw [hex,hpt] at hall
  rw [← hres] at hR
  generalize kidsI c (parTs s e.targs) e.kids.tail (e.kids.tail.map (typeI c))=o at *
  unfold orI at hR
  cases o with
  | some q =>
   obtain rfl:R=noI q:=hR.symm
   refine⟨s'.result,(by intro hh;cases hh),?_⟩
   simp only [errD,noI] at hall ⊢
   refine cB func197 ?_
   refine sR q2vx ?_
   (refine AWp.freeze 3 rfl rfl (wk [(2,.box 2 0),(3,.dptr (exC e) 0),(4,.box 4 0)] [(2,.cells (ckS c)),(4,ty0C)] ?_))
   (refine sG q2vx [6] 11 [⟨[],[],[6],[6]⟩,⟨[],[],[6],[6]⟩,⟨[],[],[6],[6]⟩,⟨[],[],[6],[6]⟩,⟨[],[],[6],[6]⟩,⟨[],[],[6],[6]⟩,⟨[],[],[6],[6]⟩,⟨[],[],[6],[6]⟩,⟨[],[],[6],[6]⟩,⟨[6],[6],[],[]⟩,⟨[6],[],[],[]⟩] fun K z=>?_;refine ev ?_;refine cj (exR_get h0) ?_;refine cc hF0 ?_;apply z;clear z K)
   refine kR q2vx fun K1 u1=>?_
   refine kI u1 ?_
   clear u1 K1
   refine sC hfind q2vx ?_
   refine kR1 hfl' q2vx fun K1 u1=>?_
   refine kI u1 ?_
   clear u1 K1
   refine kC hca q2vx fun K1 u1=>?_
   refine sR q2vx ?_
   refine kI u1 ?_
   clear u1 K1
   refine kC hbo q2vx fun K1 u1=>?_
   refine sR1 hb0 q2vx ?_
   refine kI u1 ?_
   clear u1 K1
   refine sC hap q2vx ?_
   refine sK fun K1 u1=>?_
   (refine sQ q2vx fun K z=>?_;refine ev1 hkl' ?_;refine⟨by first | (unfold InR;omega) | (simp only [InR,sm] at *;omega),?_⟩;(try refine ev1 hkl' ?_);apply z;clear z K)
   refine kI u1 ?_
   clear u1 K1
   (refine sG q2vx [] 9 [] fun K z=>?_;refine ev ?_;refine⟨exR_row _,by omega,by omega,?_⟩;(try refine ev ?_);refine cc hall ?_;apply z;clear z K)
   exact aR
  | none =>
   obtain rfl:R=(s'.result,none):=hR.symm
   refine⟨s'.result,fun _=>rfl,?_⟩
   simp only [errD] at hall ⊢
   refine cB func197 ?_
   refine sR q2vx ?_
   (refine AWp.freeze 3 rfl rfl (wk [(2,.box 2 0),(3,.dptr (exC e) 0),(4,.box 4 0)] [(2,.cells (ckS c)),(4,ty0C)] ?_))
   (refine sG q2vx [6] 11 [⟨[],[],[6],[6]⟩,⟨[],[],[6],[6]⟩,⟨[],[],[6],[6]⟩,⟨[],[],[6],[6]⟩,⟨[],[],[6],[6]⟩,⟨[],[],[6],[6]⟩,⟨[],[],[6],[6]⟩,⟨[],[],[6],[6]⟩,⟨[],[],[6],[6]⟩,⟨[6],[6],[],[]⟩,⟨[6],[],[],[]⟩] fun K z=>?_;refine ev ?_;refine cj (exR_get h0) ?_;refine cc hF0 ?_;apply z;clear z K)
   refine kR q2vx fun K1 u1=>?_
   refine kI u1 ?_
   clear u1 K1
   refine sC hfind q2vx ?_
   refine kR1 hfl' q2vx fun K1 u1=>?_
   refine kI u1 ?_
   clear u1 K1
   refine kC hca q2vx fun K1 u1=>?_
   refine sR q2vx ?_
   refine kI u1 ?_
   clear u1 K1
   refine kC hbo q2vx fun K1 u1=>?_
   refine sR1 hb0 q2vx ?_
   refine kI u1 ?_
   clear u1 K1
   refine sC hap q2vx ?_
   refine sK fun K1 u1=>?_
   (refine sQ q2vx fun K z=>?_;refine ev1 hkl' ?_;refine⟨by first | (unfold InR;omega) | (simp only [InR,sm] at *;omega),?_⟩;(try refine ev1 hkl' ?_);apply z;clear z K)
   refine kI u1 ?_
   clear u1 K1
   (refine sG q2vx [] 9 [] fun K z=>?_;refine ev ?_;refine⟨exR_row _,by omega,by omega,?_⟩;(try refine ev ?_);refine cc hall ?_;apply z;clear z K)
   exact aR
set_option maxHeartbeats 1000000
set_option maxHeartbeats 8000000
abbrev ckD (c:TCtx):List D:=[.ptr (tabC c.p),.bool false,.slice (foR c.env),.slice (paR c.vars)]
theorem ck_rec (c:TCtx):recDs (ckS c) (ckD c):=⟨⟨rfl,rfl⟩,⟨rfl,rfl⟩,⟨rfl,rfl⟩,⟨rfl,rfl⟩,trivial⟩
abbrev ruleI (c:TCtx)(f:FuncId):D:=.fn f [.agg (ckD c)]
abbrev rulesA (c:TCtx):List SV:=[.d .nilfn,.d (ruleI c 196),.d (ruleI c 197),.d (ruleI c 198),.d (ruleI c 199),.d (ruleI c 200)]
theorem typeIN_err {c:TCtx} {e:Ex} {zs:List TO} {q:Int} (h:(typeIN c e zs).2=some q):(typeIN c e zs).1=ty0:=by
 unfold typeIN at h ⊢
 have ho:∀ (o:Option Int) (t:Ty),(orI o t).2=some q→(orI o t).1=ty0:=fun o t h=>by
  cases o with
  | none=>cases h
  | some _=>rfl
 split
 ·rename_i k
  rw [if_pos k] at h
  unfold varI at h ⊢
  split
  ·split
   ·rfl
   ·rename_i h1 h2
    simp only [h1,if_neg h2] at h;cases h
  ·rfl
 rename_i k1
 rw [if_neg k1] at h
 split
 ·rename_i k
  rw [if_pos k] at h
  unfold litI at h ⊢
  split
  ·rfl
  ·rename_i h1
   simp only [h1] at h
   split
   ·rfl
   ·rename_i h2
    rw [if_neg h2] at h
    exact ho _ _ h
 rename_i k3
 rw [if_neg k3] at h
 split
 ·rfl
 rename_i kx
 rw [if_neg kx] at h
 cases zs with
 | nil=>rfl
 | cons z zs =>
  simp only at h ⊢
  obtain⟨x,o⟩:=z
  cases o with
  | some r=>rfl
  | none =>
   simp only at h ⊢
   split
   ·rename_i k
    rw [if_pos k] at h
    unfold callI at h ⊢
    split
    ·rfl
    ·rename_i h1
     simp only [h1] at h
     exact ho _ _ h
   rename_i k2
   rw [if_neg k2] at h
   split
   ·rename_i k
    rw [if_pos k] at h
    unfold selI at h ⊢
    split
    ·rfl
    ·rename_i h1
     rw [if_neg h1] at h
     split
     ·rename_i f hf
      simp only [hf] at h
      split
      ·rfl
      ·rename_i h2
       rw [if_neg h2] at h;cases h
     ·rfl
   ·rename_i k
    rw [if_neg k] at h
    unfold asrtI at h ⊢
    split
    ·rfl
    ·rename_i h1
     simp only [h1] at h
     split
     ·rfl
     ·rename_i h2
      rw [if_neg h2] at h;cases h
theorem kid_rule {c:TCtx} {e:Ex} {v:Ex} {vs:List Ex} (hk:e.kids=v::vs)(k:e.kind=2∨e.kind=4∨e.kind=5) :
  typeIN c e (e.kids.map (typeI c))=onI (typeI c v) fun x=>if e.kind=2 then callI c e x (e.kids.tail.map (typeI c)) else if e.kind=4 then selI c e x else asrtI c e x:=by
 unfold typeIN onI
 rw [if_neg (by omega),if_neg (by omega),if_neg (by omega),hk,List.map_cons,List.tail_cons]
 rfl
theorem rule_of (c:TCtx)(h:c.Sm)(hst:c.strict=false)(e:Ex)(he:e.Sm)(hF:∀ k,k∈e.kids→CallOK prog 128 [ckV c,exV k] (toV (typeI c k))) :
  (typeIN c e (e.kids.map (typeI c))=noI e.pos∧(e.kind < 1∨6≤e.kind∨(e.kind=2∨e.kind=4∨e.kind=5)∧e.kids.length=0)) ∨
  ∃ (j:Nat) (f:FuncId),e.kind=j∧j < 6∧((j=1∨j=3)∨(j=2∨j=4∨j=5)∧e.kids.length≠0)∧(rulesA c)[j]? = some (.d (ruleI c f))∧RuleOK f c e (typeIN c e (e.kids.map (typeI c))):=by
 have hFt:=fun (k:Ex) (hk:k∈e.kids) (w:Ty) (hw:w.Sm)=>ok_ifits c h hst k (typeI_Sm h k (he.kids.2 k hk)) (hF k hk) w hw
 by_cases k1:e.kind=1
 ·refine .inr ⟨1,196,k1,by omega,.inl (.inl rfl),rfl,?_⟩
  unfold typeIN
  rw [if_pos k1]
  exact .of (ok_ivar c h hst e)
 by_cases k3:e.kind=3
 ·refine .inr ⟨3,198,k3,by omega,.inl (.inr rfl),rfl,?_⟩
  unfold typeIN
  rw [if_neg k1,if_pos k3]
  exact ok_ilit c h hst e he hFt
 by_cases kx:e.kind≠2∧e.kind≠4∧e.kind≠5
 ·refine .inl ⟨?_,by omega⟩
  unfold typeIN
  rw [if_neg k1,if_neg k3,if_pos kx]
 have ky:e.kind=2∨e.kind=4∨e.kind=5:=by omega
 cases hk:e.kids with
 | nil =>
  refine .inl ⟨?_,.inr (.inr ⟨ky,rfl⟩)⟩
  unfold typeIN
  rw [if_neg k1,if_neg k3,if_neg kx]
  rfl
 | cons v vs =>
  rw [← hk,kid_rule hk ky]
  have h0:e.kids[0]? = some v:=by rw [hk];rfl
  have hFv:=hF v (by rw [hk];simp)
  have hne:e.kids.length≠0:=by rw [hk];simp
  rcases ky with k | k | k
  ·refine .inr ⟨2,197,k,by omega,.inr ⟨.inl rfl,hne⟩,rfl,?_⟩
   simp only [if_pos k]
   exact ok_icall c h hst e he v h0 hFv fun k hk'=>hFt k (by rw [hk] at hk' ⊢;exact List.mem_cons_of_mem _ hk')
  ·refine .inr ⟨4,199,k,by omega,.inr ⟨.inr (.inl rfl),hne⟩,rfl,?_⟩
   simp only [if_pos k,if_neg (show ¬ e.kind=2 by omega)]
   exact .of (ok_isel c h hst e he v h0 hFv)
  ·refine .inr ⟨5,200,k,by omega,.inr ⟨.inr (.inr rfl),hne⟩,rfl,?_⟩
   simp only [if_neg (show ¬ e.kind=4 by omega),if_neg (show ¬ e.kind=2 by omega)]
   exact .of (ok_iasrt c h hst e he v h0 hFv)
abbrev q1wx:List Nat:=[0,1,2,3,4,5,6,7,8,9,45,60]
theorem ok_ifind (c:TCtx)(h:c.Sm)(hst:c.strict=false):∀ e:Ex,e.Sm→CallOK prog 128 [ckV c,exV e] (toV (typeI c e)):=by
 intro e
 induction e using Ex.induct with | _ e ih=>?_
 intro he
 have hrule:=rule_of c h hst e he fun k hk=>ih k hk (he.kids.2 k hk)
 have hS:=typeI_Sm h e he
 have herr:=@typeIN_err c e (e.kids.map (typeI c))
 have hw1:=ok_wrong e
 have hkl:=he.kids.1
 have TA:prog.underlying 227=some (.array 6 169):=by kernel_rfl
 have TB:tsize prog 169=some 1:=by kernel_rfl
 have TD:tagg prog 168=some true:=by kernel_rfl
 have TE:tsize prog 168=some 4:=by kernel_rfl
 have TS:tsize prog 227=some 6:=by kernel_rfl
 have TZ:tzero prog 227=some [.d .nilfn,.d .nilfn,.d .nilfn,.d .nilfn,.d .nilfn,.d .nilfn]:=by kernel_rfl
 have hps:∀ (i:Nat) (q:Nat × Nat),[(0,1),(1,1),(2,1),(3,1),(4,1),(5,1)][i]? = some q→q=(i*1,1):=by
  intro i q hq
  match i with
  | 0 | 1 | 2 | 3 | 4 | 5=>simp at hq;rw [← hq]
  | i+6=>simp at hq
 have TC:tagg prog 169=some false:=by kernel_rfl
 rw [typeI_eq] at hS ⊢
 generalize typeIN c e (e.kids.map (typeI c))=z at *
 refine cB func128 ?_
 refine sR q1wx ?_
 (refine AWp.freeze 3 rfl rfl (wk [(2,.box 2 0),(3,.dptr (exC e) 0),(4,.box 4 0)] [(2,.cells (ckS c)),(4,ty0C)] ?_))
 refine AWp.seq (AWp.region [2,3,4,6] [2,4,6] (by decide +kernel) ?_)
 refine⟨true,rfl,by simp [dstOK],fun _=>⟨_,_,_,opT_loadBoxAgg (k:=2) (off:=0) (n:=4) (cs:=ckS c) rfl rfl (by simp) TD TE (Nat.le_refl 4) rfl,?_⟩,fun h=>by cases h⟩
 refine⟨true,rfl,by simp [dstOK],fun _=>⟨_,_,_,opT_boundL (ck_rec c) rfl rfl,?_⟩,fun h=>by cases h⟩
 refine⟨true,rfl,by simp [dstOK],fun _=>⟨_,_,_,opT_loadBoxAgg (k:=2) (off:=0) (n:=4) (cs:=ckS c) rfl rfl (by simp) TD TE (Nat.le_refl 4) rfl,?_⟩,fun h=>by cases h⟩
 refine⟨true,rfl,by simp [dstOK],fun _=>⟨_,_,_,opT_boundL (ck_rec c) rfl rfl,?_⟩,fun h=>by cases h⟩
 refine⟨true,rfl,by simp [dstOK],fun _=>⟨_,_,_,opT_loadBoxAgg (k:=2) (off:=0) (n:=4) (cs:=ckS c) rfl rfl (by simp) TD TE (Nat.le_refl 4) rfl,?_⟩,fun h=>by cases h⟩
 refine⟨true,rfl,by simp [dstOK],fun _=>⟨_,_,_,opT_boundL (ck_rec c) rfl rfl,?_⟩,fun h=>by cases h⟩
 refine⟨true,rfl,by simp [dstOK],fun _=>⟨_,_,_,opT_loadBoxAgg (k:=2) (off:=0) (n:=4) (cs:=ckS c) rfl rfl (by simp) TD TE (Nat.le_refl 4) rfl,?_⟩,fun h=>by cases h⟩
 refine⟨true,rfl,by simp [dstOK],fun _=>⟨_,_,_,opT_boundL (ck_rec c) rfl rfl,?_⟩,fun h=>by cases h⟩
 refine⟨true,rfl,by simp [dstOK],fun _=>⟨_,_,_,opT_loadBoxAgg (k:=2) (off:=0) (n:=4) (cs:=ckS c) rfl rfl (by simp) TD TE (Nat.le_refl 4) rfl,?_⟩,fun h=>by cases h⟩
 refine⟨true,rfl,by simp [dstOK],fun _=>⟨_,_,_,opT_boundL (ck_rec c) rfl rfl,?_⟩,fun h=>by cases h⟩
 refine⟨true,rfl,by simp [dstOK],fun _=>⟨_,_,_,opT_buildArr (ps:=[(0,1),(1,1),(2,1),(3,1),(4,1),(5,1)]) (out:=rulesA c) rfl TA TB TZ hps rfl rfl rfl,?_⟩,fun h=>by cases h⟩
 refine⟨true,rfl,by simp [dstOK],fun _=>⟨_,_,_,opT_alloc (k:=6) (by decide) rfl TZ,?_⟩,fun h=>by cases h⟩
 refine⟨true,rfl,by simp [dstOK],fun _=>⟨_,_,_,opT_storeBox (k:=6) (off:=0) (cs:=[.d .nilfn,.d .nilfn,.d .nilfn,.d .nilfn,.d .nilfn,.d .nilfn]) (us:=rulesA c) rfl rfl (List.Mem.head _) rfl TS (Nat.le_refl 6),?_⟩,fun h=>by cases h⟩
 refine AWp.weaken (sl':=[(2,.box 2 0),(3,.dptr (exC e) 0),(4,.box 4 0),(6,.box 6 0)]) (bx':=[(2,.cells (ckS c)),(4,ty0C),(6,.cells (rulesA c))])
  ⟨.inr (.inl rfl),.inr (.inl rfl),.inr (.inl rfl),.inr (.inl rfl),trivial⟩ ⟨rfl,rfl,rfl,trivial⟩ ?_
 rcases hrule with ⟨rfl,hk⟩ | ⟨j,f,hj,hj6,hjk,hcell,t,ht,hcall⟩
 ·unfold toV at *
  have n1:¬ e.kind=1:=by omega
  have n3:¬ e.kind=3:=by omega
  refine sR2 n1 n3 q1wx ?_
  refine sK fun K1 u1=>?_
  rcases hk with hk | hk | ⟨hk,hl⟩
  ·refine sR1 hk q1wx ?_
   refine tI ?_
   refine sC hw1 q1wx ?_
   exact aR
  ·have hk':¬ e.kind < 1:=by omega
   refine sR2 hk' hk q1wx ?_
   refine tI ?_
   refine sC hw1 q1wx ?_
   exact aR
  ·have hk':¬ e.kind < 1:=by omega
   have hk6:¬ 6≤e.kind:=by omega
   have hl':(e.kids.length:Int)=0:=by omega
   refine sR3 hk' hk6 hl' q1wx ?_
   refine tI ?_
   refine sC hw1 q1wx ?_
   exact aR
 ·have hk':¬ e.kind < 1:=by omega
  have hk6:¬ 6≤e.kind:=by omega
  have hcl:=ok_Clone z.1 hS
  obtain⟨x,o⟩:=z
  have hq:0+j*1=j:=by omega
  unfold toV
  have hpre:(decide (e.kind=1)=true∨(decide (e.kind=1)=false∧decide (e.kind=3)=true))∨(decide (e.kind=1)=false∧decide (e.kind=3)=false)∧¬ (e.kids.length:Int)=0:=by
   simp only [decide_eq_true_eq,decide_eq_false_iff_not];omega
  cases o with
  | some q =>
   obtain rfl:=herr rfl
   simp only [errD] at hcall ⊢
   rcases hpre with (m1 | ⟨m1,m3⟩) | ⟨⟨m1,m3⟩,hl⟩
   (refine sQ q1wx fun K z=>?_;simp -implicitDefEqProofs only [EV,Nat.reduceEqDiff,reduceCtorEq,TF3,TF28,m1,decide_not];apply z;clear z K)
   refine kR2 hk' hk6 q1wx fun K1 u1=>?_
   refine kI u1 ?_
   clear u1 K1
   rotate_left
   (refine sQ q1wx fun K z=>?_;simp -implicitDefEqProofs only [EV,Nat.reduceEqDiff,reduceCtorEq,TF3,TF28,m1,m3,decide_not];apply z;clear z K)
   refine kR2 hk' hk6 q1wx fun K1 u1=>?_
   refine kI u1 ?_
   clear u1 K1
   rotate_left
   (refine sQ q1wx fun K z=>?_;simp -implicitDefEqProofs only [EV,Nat.reduceEqDiff,reduceCtorEq,TF3,TF28,m1,m3,decide_not];apply z;clear z K)
   refine kR3 hk' hk6 hl q1wx fun K1 u1=>?_
   refine kI u1 ?_
   clear u1 K1
   rotate_left
   all_goals
    (refine sG q1wx [8] 11 [⟨[],[],[8],[8]⟩,⟨[],[],[8],[8]⟩,⟨[],[],[8],[8]⟩,⟨[],[],[8],[8]⟩,⟨[],[],[8],[8]⟩,⟨[],[],[8],[8]⟩,⟨[],[],[8],[8]⟩,⟨[],[],[8],[8]⟩,⟨[],[],[8],[8]⟩,⟨[8],[8],[],[]⟩,⟨[8],[],[],[]⟩] fun K z=>?_;refine ev ?_;refine⟨_,opQ_indexArr (j:=j) rfl rfl hj TA TB hj6 hq,?_⟩;(try refine ev1 hcell ?_);refine⟨_,opQ_callBoundL (ck_rec c) (args:=[.tmp 55]) rfl rfl hcall rfl,?_⟩;(try refine ev ?_);apply z;clear z K)
    refine kR q1wx fun K1 u1=>?_
    refine tI ?_
    refine sR q1wx ?_
    exact aR
  | none =>
   obtain rfl:=ht rfl
   simp only [errD] at hcall ⊢
   rcases hpre with (m1 | ⟨m1,m3⟩) | ⟨⟨m1,m3⟩,hl⟩
   (refine sQ q1wx fun K z=>?_;simp -implicitDefEqProofs only [EV,Nat.reduceEqDiff,reduceCtorEq,TF3,TF28,m1,decide_not];apply z;clear z K)
   refine kR2 hk' hk6 q1wx fun K1 u1=>?_
   refine kI u1 ?_
   clear u1 K1
   rotate_left
   (refine sQ q1wx fun K z=>?_;simp -implicitDefEqProofs only [EV,Nat.reduceEqDiff,reduceCtorEq,TF3,TF28,m1,m3,decide_not];apply z;clear z K)
   refine kR2 hk' hk6 q1wx fun K1 u1=>?_
   refine kI u1 ?_
   clear u1 K1
   rotate_left
   (refine sQ q1wx fun K z=>?_;simp -implicitDefEqProofs only [EV,Nat.reduceEqDiff,reduceCtorEq,TF3,TF28,m1,m3,decide_not];apply z;clear z K)
   refine kR3 hk' hk6 hl q1wx fun K1 u1=>?_
   refine kI u1 ?_
   clear u1 K1
   rotate_left
   all_goals
    (refine sG q1wx [8] 11 [⟨[],[],[8],[8]⟩,⟨[],[],[8],[8]⟩,⟨[],[],[8],[8]⟩,⟨[],[],[8],[8]⟩,⟨[],[],[8],[8]⟩,⟨[],[],[8],[8]⟩,⟨[],[],[8],[8]⟩,⟨[],[],[8],[8]⟩,⟨[],[],[8],[8]⟩,⟨[8],[8],[],[]⟩,⟨[8],[],[],[]⟩] fun K z=>?_;refine ev ?_;refine⟨_,opQ_indexArr (j:=j) rfl rfl hj TA TB hj6 hq,?_⟩;(try refine ev1 hcell ?_);refine⟨_,opQ_callBoundL (ck_rec c) (args:=[.tmp 55]) rfl rfl hcall rfl,?_⟩;(try refine ev ?_);apply z;clear z K)
    refine kR q1wx fun K1 u1=>?_
    refine kI u1 ?_
    clear u1 K1
    refine sC hcl q1wx ?_
    exact aR
abbrev q2wx:List Nat:=[0,1,2,3,4,9,10,11]
theorem ok_itype (c:TCtx)(h:c.Sm)(hst:c.strict=false)(e:Ex)(he:e.Sm) :
  CallOK prog 64 [.dptr (tabC c.p) 0,boolV false,.d (.slice (foR c.env)),.d (.slice (paR c.vars)),exV e] (toV (typeI c e)):=by
 have hF:=ok_ifind c h hst e he
 unfold toV at *
 generalize typeI c e=z at *
 obtain⟨t,o⟩:=z
 cases o with
 | none =>
  simp only [errD] at hF ⊢
  refine cB func64 ?_
  refine sR q2wx ?_
  refine sC hF q2wx ?_
  exact aR
 | some q =>
  simp only [errD] at hF ⊢
  refine cB func64 ?_
  refine sR q2wx ?_
  refine sC hF q2wx ?_
  exact aR
abbrev q3wx:List Nat:=[0,1,2,3,4,5,10,11,12]
theorem ok_iFits (c:TCtx)(h:c.Sm)(hst:c.strict=false)(e:Ex)(he:e.Sm)(w:Ty)(hw:w.Sm) :
  CallOK prog 127 [.dptr (tabC c.p) 0,boolV false,.d (.slice (foR c.env)),.d (.slice (paR c.vars)),exV e,tyV w] (.d (errD 4 (fitsI c w e (typeI c e)))):=by
 have hF:=ok_ifits c h hst e (typeI_Sm h e he) (ok_ifind c h hst e he) w hw
 generalize fitsI c w e (typeI c e)=o at *
 cases o with
 | none =>
  simp only [errD] at hF ⊢
  refine cB func127 ?_
  refine sR q3wx ?_
  refine sC hF q3wx ?_
  exact aR
 | some q =>
  simp only [errD] at hF ⊢
  refine cB func127 ?_
  refine sR q3wx ?_
  refine sC hF q3wx ?_
  exact aR
end Go.Abs
