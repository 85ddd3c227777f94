/- infer: wrong, fields, fits, all, literal, variable -/
import Derived.Test.YtenheogknlmohaaGreatDoorKS56
import Derived.Test.YtenheogknlmohaaGreatDoorKAb13
namespace Go.Abs
set_option maxHeartbeats 1000000
set_option linter.unusedSimpArgs false
set_option linter.unusedVariables false
open Go Go.Proofs Tryz
set_option maxRecDepth 100000
set_option maxHeartbeats 4000000
def cl0 (p:Prog):TCtx:=⟨p,false,[],[]⟩
abbrev ckS (p:Prog):List SV:=[.dptr (tabC p) 0,.d (.bool false),.d (.slice (foR [])),.d (.slice (paR []))]
abbrev ckV (p:Prog):SV:=.agg (ckS p)
def toV (z:TO):SV:=.tuple [tyV z.1,.d (errD 4 z.2)]
theorem boundV_nil (x:Ty):boundV [] x=none:=by
 unfold boundV findV idxF
 simp
theorem ok_wrong (e:Ex):CallOK prog 192 [exV e] (toV (noI e.pos)):=by
 refine cB func192 ?_
 refine sR [0,1,2,3] ?_
 refine sC (ok_faultNew 4 e.pos) [0,1,2,3] ?_
 exact aR
abbrev q1gx:List Nat:=[0,1,2,3,4,5,7,15]
theorem ok_ifields (p:Prog)(h:p.Sm)(x:Ty)(hx:x.Sm):CallOK prog 222 [ckV p,tyV x] (.tuple [.d (.slice (paR (fieldsT p x))),boolV (instB p x 1)]):=by
 have hb:=ok_Bound [] x (by simp) (by simp)
 rw [boundV_nil,bndV] at hb
 have hf:=ok_TFields p h x hx
 refine cB func222 ?_
 refine sR q1gx ?_
 refine kC hb q1gx fun K1 u1=>?_
 refine sR q1gx ?_
 refine kI u1 ?_
 clear u1 K1
 refine sC hf q1gx ?_
 exact aR
abbrev q2gx:List Nat:=[0,1,2,3,4,5,6,7,8,16,25]
theorem ok_ifits (p:Prog)(h:p.Sm)(e:Ex)(hT:(typeI (cl0 p) e).1.Sm)(hF:CallOK prog 141 [ckV p,exV e] (toV (typeI (cl0 p) e)))(w:Ty)(hw:w.Sm) :
  CallOK prog 237 [ckV p,exV e,tyV w] (.d (errD 4 (fitsI (cl0 p) w e (typeI (cl0 p) e)))):=by
 have hw1:=ok_wrong e
 unfold fitsI
 generalize typeI (cl0 p) e=z at *
 obtain⟨t,o⟩:=z
 have hi:=ok_Implements p h [] (by simp) (by simp) t w hT hw
 unfold toV at hF hw1
 have hcl:(cl0 p).p=p:=rfl
 have hce:(cl0 p).env=[]:=rfl
 simp only [hcl,hce] at *
 refine cB func237 ?_
 refine sR q2gx ?_
 refine sC hF q2gx ?_
 cases o with
 | some q =>
  simp only [errD]
  refine kR q2gx fun K1 u1=>?_
  refine tI ?_
  refine sR q2gx ?_
  exact aR
 | none =>
  simp only [errD]
  refine kR q2gx fun K1 u1=>?_
  refine kI u1 ?_
  clear u1 K1
  rcases Bool.eq_false_or_eq_true (implB p [] t w) with b1 | b1
  ·rw [b1] at hi ⊢
   refine kC hi q2gx fun K1 u1=>?_
   refine AWp.condF rfl (AWp.skip (u1 _ _ ?_))
   clear u1 K1
   refine sR q2gx ?_
   exact aR
  ·rw [b1] at hi ⊢
   refine kC hi q2gx fun K1 u1=>?_
   refine AWp.condT rfl ?_
   (refine lV q2gx fun K z=>?_;refine cc hw1 ?_;apply z;clear z K;try simp only [thenA,])
   refine u1 _ _ ?_
   clear u1 K1
   refine sR q2gx ?_
   exact aR
abbrev q3gx:List Nat:=[0,1,2,3,6,7,8,9,10,11,12,13,26]
theorem ok_iall (p:Prog)(h:p.Sm)(l:List Ex)(hl:l.length≤sm)(m:List Param)(hm:l.length≤m.length)
  (hF:∀ k,k∈l→∀ w:Ty,w.Sm→CallOK prog 237 [ckV p,exV k,tyV w] (.d (errD 4 (fitsI (cl0 p) w k (typeI (cl0 p) k))))) (hw:∀ f,f∈m→f.type.Sm) :
  CallOK prog 221 [ckV p,.d (.slice (exR l)),.d (.slice (paR m))] (.d (errD 4 (kidsI (cl0 p) (m.map (·.type)) l (l.map (typeI (cl0 p)))))):=by
 refine cB func221 ?_
 refine sR q3gx ?_
 refine kR q3gx fun K1 u1=>?_
 refine AWp.block (AWp.forIdx l (X:=Unit) (fun j _=>[(0,ckV p),(2,.d (.slice (paR m))),(3,.box 3 0),(10,.d (.slice (exR l))),(11,intV l.length),(12,intV j)]) (fun _ _=>[(3,.cells (ckS p))])
  (fun j _=>kidsI (cl0 p) ((m.drop j).map (·.type)) (l.drop j) ((l.drop j).map (typeI (cl0 p)))=kidsI (cl0 p) (m.map (·.type)) l (l.map (typeI (cl0 p)))) () rfl sS sB ?_ ?_)
 ·intro _ hI
  rw [List.drop_length] at hI
  have hI0:∀ ws:List Ty,kidsI (cl0 p) ws [] []=none:=fun ws=>by cases ws <;> rfl
  rw [List.map_nil,hI0] at hI
  refine sR1 Int.lt_irrefl q3gx ?_
  refine AWp.stop rfl ?_
  simp only [thenA,blockA,if_true]
  refine u1 _ _ ?_
  refine sR q3gx ?_
  rw [← hI,errD]
  exact aR
 ·intro j _ d hd hmem dp tk hlt hI
  have hjl:j < l.length:=by omega
  have hjm:j < m.length:=by omega
  have hf:=List.getElem?_eq_getElem hjm
  generalize m[j]=f at hf
  have hfm:=List.mem_of_getElem? hf
  have hc:=hF d hmem f.type (hw f hfm)
  have hdm:m.drop j=f::m.drop (j+1):=by
   obtain⟨h1,h2⟩:=List.getElem?_eq_some_iff.1 hf
   rw [List.drop_eq_getElem_cons h1,h2]
  rw [dp,hdm,List.map_cons,List.map_cons,kidsI] at hI
  refine sR1 hlt q3gx ?_
  refine AWp.goOn rfl ?_
  refine sK fun K2 u2=>?_
  refine AWp.block ?_
  (refine sV q3gx fun K z=>?_;refine ci (exR_get hd) ?_;apply z;clear z K)
  cases ho:fitsI (cl0 p) f.type d (typeI (cl0 p) d) with
  | none =>
   rw [ho] at hc hI
   simp only [errD] at hc hI
   (refine sD q3gx [] 9 mixed fun K z=>?_;refine ev ?_;refine ci (paR_get hf) ?_;refine cc hc ?_;apply z;clear z K)
   refine sR q3gx ?_
   refine AWp.condF rfl (AWp.skip (u2 _ _ ?_))
   clear u2 K2
   refine lT q3gx ?_
   exact⟨(),hI,sS,sB⟩
  | some q =>
   rw [ho] at hc hI
   simp only [errD] at hc hI
   (refine sD q3gx [] 9 mixed fun K z=>?_;refine ev ?_;refine ci (paR_get hf) ?_;refine cc hc ?_;apply z;clear z K)
   refine sR q3gx ?_
   refine AWp.condT rfl ?_
   refine sR q3gx ?_
   rw [← hI]
   simp only [errD]
   exact aR
abbrev q4gx:List Nat:=[0,1,2,3,4,5,6,12]
theorem ok_ivar (p:Prog)(h:p.Sm)(e:Ex):CallOK prog 187 [ckV p,exV e] (toV (varI (cl0 p) e)):=by
 have hr:varI (cl0 p) e=noI e.pos:=by simp [varI,cl0]
 have hix:=ok_IndexFuncP 218 [.dptr (exC e) 0] (fun x=>rfl) (fun f=>decide (f.name=e.name)) [] (by simp) (fun x hx=>by simp at hx)
 have h0:idxF (fun f:Param=>decide (f.name=e.name)) [] = -1:=by simp [idxF]
 rw [h0] at hix
 have hw1:=ok_wrong e
 rw [hr]
 unfold toV at *
 refine cB func187 ?_
 refine sR q4gx ?_
 (refine AWp.freeze 3 rfl rfl (wk [(2,.box 2 0),(3,.dptr (exC e) 0),(4,.box 4 0)] [(2,.cells (ckS p)),(4,ty0C)] ?_))
 refine sC hix q4gx ?_
 refine kR q4gx fun K1 u1=>?_
 refine tI ?_
 refine sC hw1 q4gx ?_
 exact aR
set_option maxHeartbeats 1000000
set_option maxHeartbeats 4000000
theorem typeI_Sm {p:Prog} (h:p.Sm):∀ e:Ex,e.Sm→(typeI (cl0 p) e).1.Sm:=by
 intro e
 induction e using Ex.induct with | _ e ih=>?_
 intro he
 rw [typeI_eq]
 unfold typeIN
 split
 ·unfold varI
  split
  ·rename_i f hf
   simp [cl0] at hf
  ·exact ty0_Sm
 split
 ·unfold litI
  split
  ·exact ty0_Sm
  ·split
   ·exact ty0_Sm
   ·unfold orI
    split
    ·exact ty0_Sm
    ·exact he.type
 split
 ·exact ty0_Sm
 split
 ·exact ty0_Sm
 ·rename_i z zs hz
  cases hks:e.kids with
  | nil=>rw [hks] at hz;simp at hz
  | cons v vs =>
   rw [hks] at hz
   simp only [List.map_cons,List.cons.injEq] at hz
   obtain⟨rfl,rfl⟩:=hz
   have hv:=ih v (by rw [hks];simp) (he.kids.2 v (by rw [hks];simp))
   split
   ·exact ty0_Sm
   split
   ·unfold callI
    split
    ·exact ty0_Sm
    ·rename_i s hs
     unfold orI
     split
     ·exact ty0_Sm
     ·have hsm:s∈setT p [] (typeI (cl0 p) v).1:=by
       unfold sigT at hs
       split at hs
       ·cases hs
       ·rename_i s' hs'
        split at hs
        ·cases hs
        ·split at hs
         ·cases hs
         ·split at hs
          ·cases hs
          ·split at hs
           ·cases hs
           ·cases hs;exact List.mem_of_getElem? hs'
      exact (setT_Sm h (env:=[]) (by simp) hv s hsm).result.subst he.targs.2
   split
   ·unfold selI
    split
    ·exact ty0_Sm
    ·split
     ·rename_i f hf
      split
      ·exact ty0_Sm
      ·exact (fieldsT_Sm h hv f (List.mem_of_getElem? hf)).type
     ·exact ty0_Sm
   ·unfold asrtI
    split
    ·exact ty0_Sm
    ·split
     ·exact ty0_Sm
     ·exact he.type
theorem ok_selection1 (e:Ex)(f:Param):CallOK prog 223 [paV f,.dptr (exC e) 0] (boolV (decide (f.name=e.name))):=by
 refine cB func223 ?_
 refine sR [0,1,2,3] ?_
 refine sR [0,1,2,3] ?_
 exact aR
def onI (z:TO)(f:Ty→TO):TO:=match z.2 with
 | some q=>noI q
 | none=>f z.1
abbrev q1hx:List Nat:=[0,1,2,3,4,5,6,7,8,10,21,34]
theorem ok_isel (p:Prog)(h:p.Sm)(e:Ex)(he:e.Sm)(k:Ex)(h0:e.kids[0]? = some k)(hF:CallOK prog 141 [ckV p,exV k] (toV (typeI (cl0 p) k))) :
  CallOK prog 190 [ckV p,exV e] (toV (onI (typeI (cl0 p) k) (selI (cl0 p) e))):=by
 have hx:=typeI_Sm h k (he.kids.2 k (List.mem_of_getElem? h0))
 have hw1:=ok_wrong e
 generalize typeI (cl0 p) k=z at *
 obtain⟨x,o⟩:=z
 have hfl:=ok_ifields p h x hx
 have hfS:=fieldsT_Sm h hx
 have hl1:(fieldsT p x).length≤sm:=fieldsT_len h x
 have hix:=ok_IndexFuncP 223 [.dptr (exC e) 0] (fun x=>rfl) (fun f=>decide (f.name=e.name)) (fieldsT p x) hl1 (fun f _=>ok_selection1 e f)
 unfold toV at *
 cases o with
 | some q =>
  simp only [onI,errD] at *
  refine cB func190 ?_
  refine sR q1hx ?_
  (refine AWp.freeze 3 rfl rfl (wk [(2,.box 2 0),(3,.dptr (exC e) 0),(4,.box 4 0)] [(2,.cells (ckS p)),(4,ty0C)] ?_))
  (refine dC q1hx [6] 12 6 6 9 [9,10] [10] (.box 6 0) 9 mixed fun K z=>?_;refine ev ?_;refine cj (exR_get h0) ?_;refine cc hF ?_;refine cS0 (some 6) 10 10 (.box 6 0) [6] ?_;(try refine ev ?_);refine cSk ?_;(try refine ev ?_);refine cS1 none 12 11 (.tuple []) [] ?_;(try refine ev ?_);refine cSk ?_;(try refine ev ?_);refine chV_end rfl ?_;(try refine ev ?_);apply z;clear z K)
  refine kR q1hx fun K1 u1=>?_
  refine tI ?_
  refine sR q1hx ?_
  exact aR
 | none =>
  simp only [onI,errD] at *
  generalize hR:selI (cl0 p) e x=R
  unfold selI structT at hR
  have hcl:(cl0 p).p=p:=rfl
  have hce:(cl0 p).env=[]:=rfl
  have hv0:decide (findV [] x < 0)=true:=by simp [findV,idxF]
  rw [hcl,hce,hv0,Bool.true_and] at hR
  unfold fieldI at hR
  have hcases:(R=noI e.pos∧idxF (fun f:Param=>decide (f.name=e.name)) (fieldsT p x) = -1)∨∃ (j:Nat) (f:Param),idxF (fun f:Param=>decide (f.name=e.name)) (fieldsT p x)=j∧(fieldsT p x)[j]? = some f∧R=(f.type,none):=by
   rcases Bool.eq_false_or_eq_true (instB p x 1) with b1 | b1
   ·rw [b1,if_neg (by simp)] at hR
    rcases idxF_cases (fun f:Param=>decide (f.name=e.name)) (fieldsT p x) with ⟨h1,_⟩ | ⟨j,f,h1,h2,_⟩
    ·refine .inl ⟨?_,h1⟩
     rw [← hR,h1]
     split
     ·rw [if_pos (by decide)]
     ·rfl
    ·have hj0:¬ (j:Int) < 0:=by omega
     refine .inr ⟨j,f,h1,h2,?_⟩
     rw [← hR,h1,Int.toNat_natCast,h2]
     simp only
     rw [if_neg hj0]
   ·rw [b1,if_pos rfl] at hR
    have hf0:fieldsT p x=[]:=by unfold fieldsT;rw [b1];simp
    exact .inl ⟨hR.symm,by rw [hf0];simp [idxF]⟩
  rcases hcases with ⟨rfl,h1⟩ | ⟨j,f,h1,h2,rfl⟩
  ·rw [h1] at hix
   refine cB func190 ?_
   refine sR q1hx ?_
   (refine AWp.freeze 3 rfl rfl (wk [(2,.box 2 0),(3,.dptr (exC e) 0),(4,.box 4 0)] [(2,.cells (ckS p)),(4,ty0C)] ?_))
   (refine dC q1hx [6] 12 6 6 9 [9,10] [10] (.box 6 0) 9 mixed fun K z=>?_;refine ev ?_;refine cj (exR_get h0) ?_;refine cc hF ?_;refine cS0 (some 6) 10 10 (.box 6 0) [6] ?_;(try refine ev ?_);refine cSk ?_;(try refine ev ?_);refine cS1 none 12 11 (.tuple []) [] ?_;(try refine ev ?_);refine cSk ?_;(try refine ev ?_);refine chV_end rfl ?_;(try refine ev ?_);apply z;clear z K)
   refine kR q1hx fun K1 u1=>?_
   refine kI u1 ?_
   clear u1 K1
   refine sC hfl q1hx ?_
   refine sC hix q1hx ?_
   refine kR q1hx fun K1 u1=>?_
   refine tI ?_
   refine sC hw1 q1hx ?_
   exact aR
  ·rw [h1] at hix
   have hj0:¬ (j:Int) < 0:=by omega
   refine cB func190 ?_
   refine sR q1hx ?_
   (refine AWp.freeze 3 rfl rfl (wk [(2,.box 2 0),(3,.dptr (exC e) 0),(4,.box 4 0)] [(2,.cells (ckS p)),(4,ty0C)] ?_))
   (refine dC q1hx [6] 12 6 6 9 [9,10] [10] (.box 6 0) 9 mixed fun K z=>?_;refine ev ?_;refine cj (exR_get h0) ?_;refine cc hF ?_;refine cS0 (some 6) 10 10 (.box 6 0) [6] ?_;(try refine ev ?_);refine cSk ?_;(try refine ev ?_);refine cS1 none 12 11 (.tuple []) [] ?_;(try refine ev ?_);refine cSk ?_;(try refine ev ?_);refine chV_end rfl ?_;(try refine ev ?_);apply z;clear z K)
   refine kR q1hx fun K1 u1=>?_
   refine kI u1 ?_
   clear u1 K1
   refine sC hfl q1hx ?_
   refine sC hix q1hx ?_
   refine kR1 hj0 q1hx fun K1 u1=>?_
   refine kI u1 ?_
   clear u1 K1
   (refine sV q1hx fun K z=>?_;refine ci (paR_get h2) ?_;apply z;clear z K)
   exact aR
abbrev q2hx:List Nat:=[0,1,2,3,4,5,6,7,18,27,39]
theorem ok_iasrt (p:Prog)(h:p.Sm)(e:Ex)(he:e.Sm)(k:Ex)(h0:e.kids[0]? = some k)(hF:CallOK prog 141 [ckV p,exV k] (toV (typeI (cl0 p) k))) :
  CallOK prog 191 [ckV p,exV e] (toV (onI (typeI (cl0 p) k) (asrtI (cl0 p) e))):=by
 have hck:=ok_CCheck p h [] (by simp) (by simp) e.type he.type
 generalize typeI (cl0 p) k=z at *
 obtain⟨x,o⟩:=z
 unfold toV at *
 cases o with
 | some q =>
  simp only [onI,errD] at *
  refine cB func191 ?_
  refine sR q2hx ?_
  (refine AWp.freeze 3 rfl rfl (wk [(2,.box 2 0),(3,.dptr (exC e) 0),(4,.box 4 0)] [(2,.cells (ckS p)),(4,ty0C)] ?_))
  (refine dC q2hx [6] 12 6 6 9 [9,10] [10] (.box 6 0) 9 mixed fun K z=>?_;refine ev ?_;refine cj (exR_get h0) ?_;refine cc hF ?_;refine cS0 (some 6) 10 10 (.box 6 0) [6] ?_;(try refine ev ?_);refine cSk ?_;(try refine ev ?_);refine cS1 none 12 11 (.tuple []) [] ?_;(try refine ev ?_);refine cSk ?_;(try refine ev ?_);refine chV_end rfl ?_;(try refine ev ?_);apply z;clear z K)
  refine kR q2hx fun K1 u1=>?_
  refine AWp.condF rfl (AWp.skip (u1 _ _ ?_))
  clear u1 K1
  refine kR q2hx fun K1 u1=>?_
  refine tI ?_
  refine sR q2hx ?_
  exact aR
 | none =>
  simp only [onI,errD] at hF ⊢
  generalize hR:asrtI (cl0 p) e x=R
  unfold asrtI at hR
  have hcl:(cl0 p).p=p:=rfl
  have hce:(cl0 p).env=[]:=rfl
  rw [hcl,hce] at hR
  cases hc:chk p [] e.type with
  | some q =>
   rw [hc] at hR hck
   obtain rfl:R=noI q:=hR.symm
   simp only [errD,noI] at hck ⊢
   refine cB func191 ?_
   refine sR q2hx ?_
   (refine AWp.freeze 3 rfl rfl (wk [(2,.box 2 0),(3,.dptr (exC e) 0),(4,.box 4 0)] [(2,.cells (ckS p)),(4,ty0C)] ?_))
   (refine dC q2hx [6] 12 6 6 9 [9,10] [10] (.box 6 0) 9 mixed fun K z=>?_;refine ev ?_;refine cj (exR_get h0) ?_;refine cc hF ?_;refine cS0 (some 6) 10 10 (.box 6 0) [6] ?_;(try refine ev ?_);refine cSk ?_;(try refine ev ?_);refine cS1 none 12 11 (.tuple []) [] ?_;(try refine ev ?_);refine cSk ?_;(try refine ev ?_);refine chV_end rfl ?_;(try refine ev ?_);apply z;clear z K)
   refine kR q2hx fun K1 u1=>?_
   refine AWp.condT rfl ?_
   (refine lV q2hx fun K z=>?_;refine cc hck ?_;apply z;clear z K;try simp only [thenA,])
   refine u1 _ _ ?_
   clear u1 K1
   refine kR q2hx fun K1 u1=>?_
   refine tI ?_
   refine sR q2hx ?_
   exact aR
  | none =>
   rw [hc] at hR hck
   obtain rfl:R=(e.type,none):=by rw [← hR];simp [cl0]
   simp only [errD] at hck ⊢
   refine cB func191 ?_
   refine sR q2hx ?_
   (refine AWp.freeze 3 rfl rfl (wk [(2,.box 2 0),(3,.dptr (exC e) 0),(4,.box 4 0)] [(2,.cells (ckS p)),(4,ty0C)] ?_))
   (refine dC q2hx [6] 12 6 6 9 [9,10] [10] (.box 6 0) 9 mixed fun K z=>?_;refine ev ?_;refine cj (exR_get h0) ?_;refine cc hF ?_;refine cS0 (some 6) 10 10 (.box 6 0) [6] ?_;(try refine ev ?_);refine cSk ?_;(try refine ev ?_);refine cS1 none 12 11 (.tuple []) [] ?_;(try refine ev ?_);refine cSk ?_;(try refine ev ?_);refine chV_end rfl ?_;(try refine ev ?_);apply z;clear z K)
   refine kR q2hx fun K1 u1=>?_
   refine AWp.condT rfl ?_
   (refine lV q2hx fun K z=>?_;refine cc hck ?_;apply z;clear z K;try simp only [thenA,])
   refine u1 _ _ ?_
   clear u1 K1
   refine kR q2hx fun K1 u1=>?_
   refine kI u1 ?_
   clear u1 K1
   refine kR q2hx fun K1 u1=>?_
   refine kI u1 ?_
   clear u1 K1
   refine sR q2hx ?_
   exact aR
theorem ok_mfind (p:Prog)(h:p.Sm)(env:List Formal)(hel:env.length≤sm)(he:∀ f,f∈env→f.Sm)(x:Ty)(hx:x.Sm)(nm:Str) :
  CallOK prog 219 [.dptr (tabC p) 0,.d (.slice (foR env)),tyV x,strV nm] (pickR (setT p env x) nm):=by
 have hs:=ok_Set p h env hel he x hx
 have hp:=ok_pick (setT p env x) (setT_len h env x) nm
 unfold pickR at *
 by_cases hn:nameI (setT p env x) nm < 0
 ·rw [if_pos hn] at hp ⊢
  refine cB func219 ?_
  refine sR [0,1,2,3,6,8,9] ?_
  (refine sV [0,1,2,3,6,8,9] fun K z=>?_;refine cc hs ?_;refine cc hp ?_;apply z;clear z K)
  exact aR
 ·rw [if_neg hn] at hp ⊢
  generalize ((setT p env x)[(nameI (setT p env x) nm).toNat]?).getD sig0=s at *
  refine cB func219 ?_
  refine sR [0,1,2,3,6,8,9] ?_
  (refine sV [0,1,2,3,6,8,9] fun K z=>?_;refine cc hs ?_;refine cc hp ?_;apply z;clear z K)
  exact aR
theorem ok_bapply (s:Sig)(h:s.Sm)(args:List Ty)(hl:s.formals.length=args.length)(ha:∀ u,u∈args→u.Sm) :
  CallOK prog 220 [siV s,tysV args] (.tuple [siV (s.subst (s.formals.map (·.name)) args),boolV true]):=by
 have hnm:=ok_Names s.formals h.formals.1
 have hsb:=ok_BSubst (s.formals.map (·.name)) args ha s h
 have hl':(s.formals.length:Int)=(args.length:Int):=by omega
 generalize s.subst (s.formals.map (·.name)) args=s' at *
 refine cB func220 ?_
 refine sR [0,1,2,4,5,11] ?_
 refine kR1 hl' [0,1,2,4,5,11] fun K1 u1=>?_
 refine kI u1 ?_
 clear u1 K1
 (refine sD [0,1,2,4,5,11] [] 6 mixed fun K z=>?_;refine ev ?_;refine cc hnm ?_;refine cc hsb ?_;apply z;clear z K)
 exact aR
set_option maxHeartbeats 1000000
set_option maxHeartbeats 4000000
def RuleOK (f:FuncId)(p:Prog)(e:Ex)(z:TO):Prop:=∃ t,(z.2=none→t=z.1)∧CallOK prog f [ckV p,exV e] (.tuple [tyV t,.d (errD 4 z.2)])
theorem RuleOK.of {f:FuncId} {p:Prog} {e:Ex} {z:TO} (h:CallOK prog f [ckV p,exV e] (toV z)):RuleOK f p e z:=⟨z.1,fun _=>rfl,h⟩
abbrev q1ix:List Nat:=[0,1,2,3,4,5,6,7,8,17,36]
theorem ok_ilit (p:Prog)(h:p.Sm)(e:Ex)(he:e.Sm)
  (hF:∀ k,k∈e.kids→∀ w:Ty,w.Sm→CallOK prog 237 [ckV p,exV k,tyV w] (.d (errD 4 (fitsI (cl0 p) w k (typeI (cl0 p) k))))) :
  RuleOK 189 p e (litI (cl0 p) e (e.kids.map (typeI (cl0 p)))):=by
 have hw1:=ok_wrong e
 have hck:=ok_CCheck p h [] (by simp) (by simp) e.type he.type
 have hfl:=ok_ifields p h e.type he.type
 have hkl:=he.kids.1
 unfold toV at hw1
 generalize hR:litI (cl0 p) e (e.kids.map (typeI (cl0 p)))=R
 unfold litI structT at hR
 have hcl:(cl0 p).p=p:=rfl
 have hce:(cl0 p).env=[]:=rfl
 have hv0:decide (findV [] e.type < 0)=true:=by simp [findV,idxF]
 rw [hcl,hce,hv0,Bool.true_and] at hR
 cases hc:chk p [] e.type with
 | some q =>
  rw [hc] at hR hck
  obtain rfl:R=noI q:=hR.symm
  refine RuleOK.of ?_
  simp only [toV,errD,noI] at hck ⊢
  refine cB func189 ?_
  refine sR q1ix ?_
  (refine AWp.freeze 3 rfl rfl (wk [(2,.box 2 0),(3,.dptr (exC e) 0),(4,.box 4 0)] [(2,.cells (ckS p)),(4,ty0C)] ?_))
  refine kC hck q1ix fun K1 u1=>?_
  refine sR q1ix ?_
  refine tI ?_
  refine sR q1ix ?_
  exact aR
 | none =>
  rw [hc] at hR hck
  simp only [errD] at hR hck
  by_cases hbad:instB p e.type 1=false∨(fieldsT p e.type).length≠e.kids.length
  ·rw [if_pos hbad] at hR
   obtain rfl:R=noI e.pos:=hR.symm
   refine RuleOK.of ?_
   simp only [toV]
   rcases Bool.eq_false_or_eq_true (instB p e.type 1) with b1 | b1
   ·rw [b1] at hfl
    have hl:¬ ((fieldsT p e.type).length:Int)=(e.kids.length:Int):=by
     rcases hbad with hb | hb
     ·rw [b1] at hb;cases hb
     ·omega
    refine cB func189 ?_
    refine sR q1ix ?_
    (refine AWp.freeze 3 rfl rfl (wk [(2,.box 2 0),(3,.dptr (exC e) 0),(4,.box 4 0)] [(2,.cells (ckS p)),(4,ty0C)] ?_))
    refine kC hck q1ix fun K1 u1=>?_
    refine sR q1ix ?_
    refine kI u1 ?_
    clear u1 K1
    refine sC hfl q1ix ?_
    refine kR1 hl q1ix fun K1 u1=>?_
    refine tI ?_
    refine sC hw1 q1ix ?_
    exact aR
   ·rw [b1] at hfl
    refine cB func189 ?_
    refine sR q1ix ?_
    (refine AWp.freeze 3 rfl rfl (wk [(2,.box 2 0),(3,.dptr (exC e) 0),(4,.box 4 0)] [(2,.cells (ckS p)),(4,ty0C)] ?_))
    refine kC hck q1ix fun K1 u1=>?_
    refine sR q1ix ?_
    refine kI u1 ?_
    clear u1 K1
    refine sC hfl q1ix ?_
    refine kR q1ix fun K1 u1=>?_
    refine tI ?_
    refine sC hw1 q1ix ?_
    exact aR
  ·rw [if_neg hbad] at hR
   have b1:instB p e.type 1=true:=by
    rcases Bool.eq_false_or_eq_true (instB p e.type 1) with b | b
    ·exact b
    ·exact (hbad (.inl b)).elim
   have hle:(fieldsT p e.type).length=e.kids.length:=Classical.byContradiction fun hh=>hbad (.inr hh)
   have hl:((fieldsT p e.type).length:Int)=(e.kids.length:Int):=by omega
   have hall:=ok_iall p h e.kids hkl (fieldsT p e.type) (by omega) hF (fun f hf=>(fieldsT_Sm h he.type f hf).type)
   rw [b1] at hfl
   unfold orI at hR
   generalize kidsI (cl0 p) ((fieldsT p e.type).map (·.type)) e.kids (e.kids.map (typeI (cl0 p)))=o at *
   cases o with
   | some q =>
    obtain rfl:R=noI q:=hR.symm
    refine⟨e.type,(by intro hh;cases hh),?_⟩
    simp only [errD,noI] at hall ⊢
    refine cB func189 ?_
    refine sR q1ix ?_
    (refine AWp.freeze 3 rfl rfl (wk [(2,.box 2 0),(3,.dptr (exC e) 0),(4,.box 4 0)] [(2,.cells (ckS p)),(4,ty0C)] ?_))
    refine kC hck q1ix fun K1 u1=>?_
    refine sR q1ix ?_
    refine kI u1 ?_
    clear u1 K1
    refine sC hfl q1ix ?_
    refine kR1 hl q1ix fun K1 u1=>?_
    refine kI u1 ?_
    clear u1 K1
    (refine sD q1ix [] 7 mixed fun K z=>?_;refine ev ?_;refine cc hall ?_;apply z;clear z K)
    exact aR
   | none =>
    obtain rfl:R=(e.type,none):=hR.symm
    refine RuleOK.of ?_
    simp only [toV,errD] at hall ⊢
    refine cB func189 ?_
    refine sR q1ix ?_
    (refine AWp.freeze 3 rfl rfl (wk [(2,.box 2 0),(3,.dptr (exC e) 0),(4,.box 4 0)] [(2,.cells (ckS p)),(4,ty0C)] ?_))
    refine kC hck q1ix fun K1 u1=>?_
    refine sR q1ix ?_
    refine kI u1 ?_
    clear u1 K1
    refine sC hfl q1ix ?_
    refine kR1 hl q1ix fun K1 u1=>?_
    refine kI u1 ?_
    clear u1 K1
    (refine sD q1ix [] 7 mixed fun K z=>?_;refine ev ?_;refine cc hall ?_;apply z;clear z K)
    exact aR
abbrev q2ix:List Nat:=[0,1,2,3,4,5,6,7,8,9,10,11,22,46,59,72,95]
theorem ok_icall (p:Prog)(h:p.Sm)(e:Ex)(he:e.Sm)(k:Ex)(h0:e.kids[0]? = some k)(hF0:CallOK prog 141 [ckV p,exV k] (toV (typeI (cl0 p) k)))
  (hF:∀ k,k∈e.kids.tail→∀ w:Ty,w.Sm→CallOK prog 237 [ckV p,exV k,tyV w] (.d (errD 4 (fitsI (cl0 p) w k (typeI (cl0 p) k))))) :
  RuleOK 188 p e (onI (typeI (cl0 p) k) fun x=>callI (cl0 p) e x (e.kids.tail.map (typeI (cl0 p)))):=by
 have hx:=typeI_Sm h k (he.kids.2 k (List.mem_of_getElem? h0))
 have hw1:=ok_wrong e
 have hkl:=he.kids.1
 have htl:=he.targs.1
 generalize typeI (cl0 p) k=z at *
 obtain⟨x,o⟩:=z
 have hfind:=ok_mfind p h [] (by simp) (by simp) x hx e.name
 have hss:=setT_Sm h (env:=[]) (by simp) hx
 have hat:∀ (j:Nat) (s:Sig),nameI (setT p [] x) e.name=j→(setT p [] x)[j]? = some s→sigT (cl0 p) e x=if s.formals.length≠e.targs.length then .inl e.pos else
  match chkL p [] e.targs with
  | some q=>.inl q
  | none=>if 0≤boundsI p [] s.formals e.targs then .inl ((e.targs[(boundsI p [] s.formals e.targs).toNat]?).getD default).pos else
   if e.kids.length≠s.params.length+1 then .inl e.pos else .inr s:=fun j s h1 h2=>sigT_at (c:=cl0 p) h1 h2
 have hneg:nameI (setT p [] x) e.name = -1→sigT (cl0 p) e x=.inl e.pos:=fun h=>by
  unfold sigT
  rw [show setT (cl0 p).p (cl0 p).env x=setT p [] x from rfl,h]
  split
  ·rfl
  ·rw [if_pos (.inl (by decide))]
 have hidx:=idxF_cases (fun s:Sig=>decide (s.name=e.name)) (setT p [] x)
 unfold toV at hF0 hw1
 unfold onI
 cases o with
 | some q =>
  refine RuleOK.of ?_
  simp only [toV,errD,noI] at hF0 ⊢
  refine cB func188 ?_
  refine sR q2ix ?_
  (refine AWp.freeze 3 rfl rfl (wk [(2,.box 2 0),(3,.dptr (exC e) 0),(4,.box 4 0)] [(2,.cells (ckS p)),(4,ty0C)] ?_))
  (refine dC q2ix [6] 12 6 6 9 [9,10] [10] (.box 6 0) 9 mixed fun K z=>?_;refine ev ?_;refine cj (exR_get h0) ?_;refine cc hF0 ?_;refine cS0 (some 6) 10 10 (.box 6 0) [6] ?_;(try refine ev ?_);refine cSk ?_;(try refine ev ?_);refine cS1 none 12 11 (.tuple []) [] ?_;(try refine ev ?_);refine cSk ?_;(try refine ev ?_);refine chV_end rfl ?_;(try refine ev ?_);apply z;clear z K)
  refine kR q2ix fun K1 u1=>?_
  refine tI ?_
  refine sR q2ix ?_
  exact aR
 | none =>
  simp only [errD] at hF0 ⊢
  generalize hR:callI (cl0 p) e x (e.kids.tail.map (typeI (cl0 p)))=R
  unfold callI at hR
  have hno:sigT (cl0 p) e x=.inl e.pos→R=noI e.pos:=fun h=>by rw [← hR,h]
  unfold nameI at hat hneg
  unfold pickR nameI at hfind
  generalize setT p [] x=l at *
  rcases hidx with ⟨h1,_⟩ | ⟨j,s,h1,h2,_⟩
  ·rw [h1,if_pos (by decide)] at hfind
   obtain rfl:=hno (hneg h1)
   refine RuleOK.of ?_
   simp only [toV]
   refine cB func188 ?_
   refine sR q2ix ?_
   (refine AWp.freeze 3 rfl rfl (wk [(2,.box 2 0),(3,.dptr (exC e) 0),(4,.box 4 0)] [(2,.cells (ckS p)),(4,ty0C)] ?_))
   (refine dC q2ix [6] 12 6 6 9 [9,10] [10] (.box 6 0) 9 mixed fun K z=>?_;refine ev ?_;refine cj (exR_get h0) ?_;refine cc hF0 ?_;refine cS0 (some 6) 10 10 (.box 6 0) [6] ?_;(try refine ev ?_);refine cSk ?_;(try refine ev ?_);refine cS1 none 12 11 (.tuple []) [] ?_;(try refine ev ?_);refine cSk ?_;(try refine ev ?_);refine chV_end rfl ?_;(try refine ev ?_);apply z;clear z K)
   refine kR q2ix fun K1 u1=>?_
   refine kI u1 ?_
   clear u1 K1
   refine sC hfind q2ix ?_
   refine kR q2ix fun K1 u1=>?_
   refine tI ?_
   refine sC hw1 q2ix ?_
   exact aR
  have hsig:=hat j s h1 h2
  have hs:=hss s (List.mem_of_getElem? h2)
  have hj0:¬ (j:Int) < 0:=by omega
  rw [h1,if_neg hj0,Int.toNat_natCast,h2,Option.getD_some] at hfind
  by_cases hfl:s.formals.length=e.targs.length
  rotate_left
  ·rw [if_pos hfl] at hsig
   obtain rfl:=hno hsig
   have hfl':¬ (s.formals.length:Int)=(e.targs.length:Int):=by omega
   refine RuleOK.of ?_
   simp only [toV]
   refine cB func188 ?_
   refine sR q2ix ?_
   (refine AWp.freeze 3 rfl rfl (wk [(2,.box 2 0),(3,.dptr (exC e) 0),(4,.box 4 0)] [(2,.cells (ckS p)),(4,ty0C)] ?_))
   (refine dC q2ix [6] 12 6 6 9 [9,10] [10] (.box 6 0) 9 mixed fun K z=>?_;refine ev ?_;refine cj (exR_get h0) ?_;refine cc hF0 ?_;refine cS0 (some 6) 10 10 (.box 6 0) [6] ?_;(try refine ev ?_);refine cSk ?_;(try refine ev ?_);refine cS1 none 12 11 (.tuple []) [] ?_;(try refine ev ?_);refine cSk ?_;(try refine ev ?_);refine chV_end rfl ?_;(try refine ev ?_);apply z;clear z K)
   refine kR q2ix fun K1 u1=>?_
   refine kI u1 ?_
   clear u1 K1
   refine sC hfind q2ix ?_
   refine kR1 hfl' q2ix fun K1 u1=>?_
   refine tI ?_
   refine sC hw1 q2ix ?_
   exact aR
  rw [if_neg fun hh=>hh hfl] at hsig
  have hfl':(s.formals.length:Int)=(e.targs.length:Int):=by omega
  have hca:=ok_CAll p [] e.targs htl (fun t ht=>ok_CCheck p h [] (by simp) (by simp) t (he.targs.2 t ht))
  cases hck:chkL p [] e.targs with
  | some q =>
   rw [hck] at hsig hca
   simp only at hsig
   obtain rfl:R=noI q:=by rw [← hR,hsig]
   refine RuleOK.of ?_
   simp only [toV,errD,noI] at hca ⊢
   refine cB func188 ?_
   refine sR q2ix ?_
   (refine AWp.freeze 3 rfl rfl (wk [(2,.box 2 0),(3,.dptr (exC e) 0),(4,.box 4 0)] [(2,.cells (ckS p)),(4,ty0C)] ?_))
   (refine dC q2ix [6] 12 6 6 9 [9,10] [10] (.box 6 0) 9 mixed fun K z=>?_;refine ev ?_;refine cj (exR_get h0) ?_;refine cc hF0 ?_;refine cS0 (some 6) 10 10 (.box 6 0) [6] ?_;(try refine ev ?_);refine cSk ?_;(try refine ev ?_);refine cS1 none 12 11 (.tuple []) [] ?_;(try refine ev ?_);refine cSk ?_;(try refine ev ?_);refine chV_end rfl ?_;(try refine ev ?_);apply z;clear z K)
   refine kR q2ix fun K1 u1=>?_
   refine kI u1 ?_
   clear u1 K1
   refine sC hfind q2ix ?_
   refine kR1 hfl' q2ix fun K1 u1=>?_
   refine kI u1 ?_
   clear u1 K1
   refine kC hca q2ix fun K1 u1=>?_
   refine sR q2ix ?_
   refine tI ?_
   refine sR q2ix ?_
   exact aR
  | none =>
  rw [hck] at hsig hca
  simp only at hsig
  simp only [errD] at hca
  have hbo:=ok_Bounds p h [] (by simp) (by simp) s.formals hs.formals.1 hs.formals.2 e.targs hfl.symm he.targs.2
  have hbg:=@bounds_get p [] s.formals e.targs
  generalize boundsI p [] s.formals e.targs=b at *
  by_cases hb0:0≤b
  ·obtain⟨u,hu⟩:=hbg hb0 hfl.symm
   rw [if_pos hb0,hu,Option.getD_some] at hsig
   obtain rfl:R=noI u.pos:=by rw [← hR,hsig]
   have hfn:=ok_faultNew 4 u.pos
   refine RuleOK.of ?_
   simp only [toV,noI]
   refine cB func188 ?_
   refine sR q2ix ?_
   (refine AWp.freeze 3 rfl rfl (wk [(2,.box 2 0),(3,.dptr (exC e) 0),(4,.box 4 0)] [(2,.cells (ckS p)),(4,ty0C)] ?_))
   (refine dC q2ix [6] 12 6 6 9 [9,10] [10] (.box 6 0) 9 mixed fun K z=>?_;refine ev ?_;refine cj (exR_get h0) ?_;refine cc hF0 ?_;refine cS0 (some 6) 10 10 (.box 6 0) [6] ?_;(try refine ev ?_);refine cSk ?_;(try refine ev ?_);refine cS1 none 12 11 (.tuple []) [] ?_;(try refine ev ?_);refine cSk ?_;(try refine ev ?_);refine chV_end rfl ?_;(try refine ev ?_);apply z;clear z K)
   refine kR q2ix fun K1 u1=>?_
   refine kI u1 ?_
   clear u1 K1
   refine sC hfind q2ix ?_
   refine kR1 hfl' q2ix fun K1 u1=>?_
   refine kI u1 ?_
   clear u1 K1
   refine kC hca q2ix fun K1 u1=>?_
   refine sR q2ix ?_
   refine kI u1 ?_
   clear u1 K1
   refine kC hbo q2ix fun K1 u1=>?_
   refine sR1 hb0 q2ix ?_
   refine tI ?_
   (refine sV q2ix fun K z=>?_;refine ci (tyR_get hu) ?_;refine cc hfn ?_;apply z;clear z K)
   exact aR
  rw [if_neg hb0] at hsig
  have hpl:=hs.params.1
  have hap:=ok_bapply s hs e.targs hfl he.targs.2
  have hpt:(s.subst (s.formals.map (·.name)) e.targs).params.map (·.type)=parTs s e.targs:=by simp [Sig.subst,Param.subst,parTs,fnames]
  have hres:(s.subst (s.formals.map (·.name)) e.targs).result=s.result.subst (fnames s.formals) e.targs:=rfl
  have hplen:(s.subst (s.formals.map (·.name)) e.targs).params.length=s.params.length:=by simp [Sig.subst]
  have hpS:∀ f,f∈(s.subst (s.formals.map (·.name)) e.targs).params→f.type.Sm:=by
   intro f hf
   simp only [Sig.subst] at hf
   obtain⟨g,hg,rfl⟩:=List.mem_map.1 hf
   exact (hs.params.2 g hg).type.subst he.targs.2
  generalize s.subst (s.formals.map (·.name)) e.targs=s' at *
  by_cases hkl2:e.kids.length=s.params.length+1
  rotate_left
  ·rw [if_pos hkl2] at hsig
   obtain rfl:=hno hsig
   have hkl':¬ (e.kids.length:Int) - 1=(s'.params.length:Int):=by omega
   refine RuleOK.of ?_
   simp only [toV]
   refine cB func188 ?_
   refine sR q2ix ?_
   (refine AWp.freeze 3 rfl rfl (wk [(2,.box 2 0),(3,.dptr (exC e) 0),(4,.box 4 0)] [(2,.cells (ckS p)),(4,ty0C)] ?_))
   (refine dC q2ix [6] 12 6 6 9 [9,10] [10] (.box 6 0) 9 mixed fun K z=>?_;refine ev ?_;refine cj (exR_get h0) ?_;refine cc hF0 ?_;refine cS0 (some 6) 10 10 (.box 6 0) [6] ?_;(try refine ev ?_);refine cSk ?_;(try refine ev ?_);refine cS1 none 12 11 (.tuple []) [] ?_;(try refine ev ?_);refine cSk ?_;(try refine ev ?_);refine chV_end rfl ?_;(try refine ev ?_);apply z;clear z K)
   refine kR q2ix fun K1 u1=>?_
   refine kI u1 ?_
   clear u1 K1
   refine sC hfind q2ix ?_
   refine kR1 hfl' q2ix fun K1 u1=>?_
   refine kI u1 ?_
   clear u1 K1
   refine kC hca q2ix fun K1 u1=>?_
   refine sR q2ix ?_
   refine kI u1 ?_
   clear u1 K1
   refine kC hbo q2ix fun K1 u1=>?_
   refine sR1 hb0 q2ix ?_
   refine kI u1 ?_
   clear u1 K1
   refine sC hap q2ix ?_
   refine sK fun K1 u1=>?_
   (refine sQ q2ix fun K z=>?_;refine ev1 hkl' ?_;refine⟨by first | (unfold InR;omega) | (simp only [InR,sm] at *;omega),?_⟩;(try refine ev1 hkl' ?_);apply z;clear z K)
   refine tI ?_
   refine sC hw1 q2ix ?_
   exact aR
  rw [if_neg fun hh=>hh hkl2] at hsig
  have hkl':(e.kids.length:Int) - 1=(s'.params.length:Int):=by omega
  rw [hsig] at hR
  simp only at hR
  have hall:=ok_iall p h e.kids.tail (by rw [List.length_tail];omega) s'.params (by rw [List.length_tail];omega) hF hpS
  have hex:exR e.kids.tail=((exR e.kids).take e.kids.length).drop 1:=by rw [List.take_of_length_le (by rw [exR_len];exact Nat.le_refl _),exR_map,exR_map,← List.map_drop,List.drop_one]
  rw [hex,hpt] at hall
  rw [← hres] at hR
  generalize kidsI (cl0 p) (parTs s e.targs) e.kids.tail (e.kids.tail.map (typeI (cl0 p)))=o at *
  unfold orI at hR
  cases o with
  | some q =>
   obtain rfl:R=noI q:=hR.symm
   refine⟨s'.result,(by intro hh;cases hh),?_⟩
   simp only [errD,noI] at hall ⊢
   refine cB func188 ?_
   refine sR q2ix ?_
   (refine AWp.freeze 3 rfl rfl (wk [(2,.box 2 0),(3,.dptr (exC e) 0),(4,.box 4 0)] [(2,.cells (ckS p)),(4,ty0C)] ?_))
   (refine dC q2ix [6] 12 6 6 9 [9,10] [10] (.box 6 0) 9 mixed fun K z=>?_;refine ev ?_;refine cj (exR_get h0) ?_;refine cc hF0 ?_;refine cS0 (some 6) 10 10 (.box 6 0) [6] ?_;(try refine ev ?_);refine cSk ?_;(try refine ev ?_);refine cS1 none 12 11 (.tuple []) [] ?_;(try refine ev ?_);refine cSk ?_;(try refine ev ?_);refine chV_end rfl ?_;(try refine ev ?_);apply z;clear z K)
   refine kR q2ix fun K1 u1=>?_
   refine kI u1 ?_
   clear u1 K1
   refine sC hfind q2ix ?_
   refine kR1 hfl' q2ix fun K1 u1=>?_
   refine kI u1 ?_
   clear u1 K1
   refine kC hca q2ix fun K1 u1=>?_
   refine sR q2ix ?_
   refine kI u1 ?_
   clear u1 K1
   refine kC hbo q2ix fun K1 u1=>?_
   refine sR1 hb0 q2ix ?_
   refine kI u1 ?_
   clear u1 K1
   refine sC hap q2ix ?_
   refine sK fun K1 u1=>?_
   (refine sQ q2ix fun K z=>?_;refine ev1 hkl' ?_;refine⟨by first | (unfold InR;omega) | (simp only [InR,sm] at *;omega),?_⟩;(try refine ev1 hkl' ?_);apply z;clear z K)
   refine kI u1 ?_
   clear u1 K1
   (refine sD q2ix [] 9 mixed fun K z=>?_;refine ev ?_;refine⟨exR_row _,by omega,by omega,?_⟩;(try refine ev ?_);refine cc hall ?_;apply z;clear z K)
   exact aR
  | none =>
   obtain rfl:R=(s'.result,none):=hR.symm
   refine⟨s'.result,fun _=>rfl,?_⟩
   simp only [errD] at hall ⊢
   refine cB func188 ?_
   refine sR q2ix ?_
   (refine AWp.freeze 3 rfl rfl (wk [(2,.box 2 0),(3,.dptr (exC e) 0),(4,.box 4 0)] [(2,.cells (ckS p)),(4,ty0C)] ?_))
   (refine dC q2ix [6] 12 6 6 9 [9,10] [10] (.box 6 0) 9 mixed fun K z=>?_;refine ev ?_;refine cj (exR_get h0) ?_;refine cc hF0 ?_;refine cS0 (some 6) 10 10 (.box 6 0) [6] ?_;(try refine ev ?_);refine cSk ?_;(try refine ev ?_);refine cS1 none 12 11 (.tuple []) [] ?_;(try refine ev ?_);refine cSk ?_;(try refine ev ?_);refine chV_end rfl ?_;(try refine ev ?_);apply z;clear z K)
   refine kR q2ix fun K1 u1=>?_
   refine kI u1 ?_
   clear u1 K1
   refine sC hfind q2ix ?_
   refine kR1 hfl' q2ix fun K1 u1=>?_
   refine kI u1 ?_
   clear u1 K1
   refine kC hca q2ix fun K1 u1=>?_
   refine sR q2ix ?_
   refine kI u1 ?_
   clear u1 K1
   refine kC hbo q2ix fun K1 u1=>?_
   refine sR1 hb0 q2ix ?_
   refine kI u1 ?_
   clear u1 K1
   refine sC hap q2ix ?_
   refine sK fun K1 u1=>?_
   (refine sQ q2ix fun K z=>?_;refine ev1 hkl' ?_;refine⟨by first | (unfold InR;omega) | (simp only [InR,sm] at *;omega),?_⟩;(try refine ev1 hkl' ?_);apply z;clear z K)
   refine kI u1 ?_
   clear u1 K1
   (refine sD q2ix [] 9 mixed fun K z=>?_;refine ev ?_;refine⟨exR_row _,by omega,by omega,?_⟩;(try refine ev ?_);refine cc hall ?_;apply z;clear z K)
   exact aR
set_option maxHeartbeats 1000000
set_option maxHeartbeats 8000000
abbrev ckD (p:Prog):List D:=[.ptr (tabC p),.bool false,.slice (foR []),.slice (paR [])]
theorem ck_rec (p:Prog):recDs (ckS p) (ckD p):=⟨⟨rfl,rfl⟩,⟨rfl,rfl⟩,⟨rfl,rfl⟩,⟨rfl,rfl⟩,trivial⟩
abbrev ruleI (p:Prog)(f:FuncId):D:=.fn f [.agg (ckD p)]
abbrev rulesA (p:Prog):List SV:=[.d .nilfn,.d (ruleI p 187),.d (ruleI p 188),.d (ruleI p 189),.d (ruleI p 190),.d (ruleI p 191)]
theorem typeIN_err {c:TCtx} {e:Ex} {zs:List TO} {q:Int} (h:(typeIN c e zs).2=some q):(typeIN c e zs).1=ty0:=by
 unfold typeIN at h ⊢
 have ho:∀ (o:Option Int) (t:Ty),(orI o t).2=some q→(orI o t).1=ty0:=fun o t h=>by
  cases o with
  | none=>cases h
  | some _=>rfl
 split
 ·rename_i k
  rw [if_pos k] at h
  unfold varI at h ⊢
  split
  ·split
   ·rfl
   ·rename_i h1 h2
    simp only [h1,if_neg h2] at h;cases h
  ·rfl
 rename_i k1
 rw [if_neg k1] at h
 split
 ·rename_i k
  rw [if_pos k] at h
  unfold litI at h ⊢
  split
  ·rfl
  ·rename_i h1
   simp only [h1] at h
   split
   ·rfl
   ·rename_i h2
    rw [if_neg h2] at h
    exact ho _ _ h
 rename_i k3
 rw [if_neg k3] at h
 split
 ·rfl
 rename_i kx
 rw [if_neg kx] at h
 cases zs with
 | nil=>rfl
 | cons z zs =>
  simp only at h ⊢
  obtain⟨x,o⟩:=z
  cases o with
  | some r=>rfl
  | none =>
   simp only at h ⊢
   split
   ·rename_i k
    rw [if_pos k] at h
    unfold callI at h ⊢
    split
    ·rfl
    ·rename_i h1
     simp only [h1] at h
     exact ho _ _ h
   rename_i k2
   rw [if_neg k2] at h
   split
   ·rename_i k
    rw [if_pos k] at h
    unfold selI at h ⊢
    split
    ·rfl
    ·rename_i h1
     rw [if_neg h1] at h
     split
     ·rename_i f hf
      simp only [hf] at h
      split
      ·rfl
      ·rename_i h2
       rw [if_neg h2] at h;cases h
     ·rfl
   ·rename_i k
    rw [if_neg k] at h
    unfold asrtI at h ⊢
    split
    ·rfl
    ·rename_i h1
     simp only [h1] at h
     split
     ·rfl
     ·rename_i h2
      rw [if_neg h2] at h;cases h
theorem kid_rule {p:Prog} {e:Ex} {v:Ex} {vs:List Ex} (hk:e.kids=v::vs)(k:e.kind=2∨e.kind=4∨e.kind=5) :
  typeIN (cl0 p) e (e.kids.map (typeI (cl0 p)))=onI (typeI (cl0 p) v) fun x=>if e.kind=2 then callI (cl0 p) e x (e.kids.tail.map (typeI (cl0 p))) else if e.kind=4 then selI (cl0 p) e x else asrtI (cl0 p) e x:=by
 unfold typeIN onI
 rw [if_neg (by omega),if_neg (by omega),if_neg (by omega),hk,List.map_cons,List.tail_cons]
 rfl
theorem rule_of (p:Prog)(h:p.Sm)(e:Ex)(he:e.Sm)(hF:∀ k,k∈e.kids→CallOK prog 141 [ckV p,exV k] (toV (typeI (cl0 p) k))) :
  (typeIN (cl0 p) e (e.kids.map (typeI (cl0 p)))=noI e.pos∧(e.kind < 1∨6≤e.kind∨(e.kind=2∨e.kind=4∨e.kind=5)∧e.kids.length=0)) ∨
  ∃ (j:Nat) (f:FuncId),e.kind=j∧j < 6∧((j=1∨j=3)∨(j=2∨j=4∨j=5)∧e.kids.length≠0)∧(rulesA p)[j]? = some (.d (ruleI p f))∧RuleOK f p e (typeIN (cl0 p) e (e.kids.map (typeI (cl0 p)))):=by
 have hFt:=fun (k:Ex) (hk:k∈e.kids) (w:Ty) (hw:w.Sm)=>ok_ifits p h k (typeI_Sm h k (he.kids.2 k hk)) (hF k hk) w hw
 by_cases k1:e.kind=1
 ·refine .inr ⟨1,187,k1,by omega,.inl (.inl rfl),rfl,?_⟩
  unfold typeIN
  rw [if_pos k1]
  exact .of (ok_ivar p h e)
 by_cases k3:e.kind=3
 ·refine .inr ⟨3,189,k3,by omega,.inl (.inr rfl),rfl,?_⟩
  unfold typeIN
  rw [if_neg k1,if_pos k3]
  exact ok_ilit p h e he hFt
 by_cases kx:e.kind≠2∧e.kind≠4∧e.kind≠5
 ·refine .inl ⟨?_,by omega⟩
  unfold typeIN
  rw [if_neg k1,if_neg k3,if_pos kx]
 have ky:e.kind=2∨e.kind=4∨e.kind=5:=by omega
 cases hk:e.kids with
 | nil =>
  refine .inl ⟨?_,.inr (.inr ⟨ky,rfl⟩)⟩
  unfold typeIN
  rw [if_neg k1,if_neg k3,if_neg kx]
  rfl
 | cons v vs =>
  rw [← hk,kid_rule hk ky]
  have h0:e.kids[0]? = some v:=by rw [hk];rfl
  have hFv:=hF v (by rw [hk];simp)
  have hne:e.kids.length≠0:=by rw [hk];simp
  rcases ky with k | k | k
  ·refine .inr ⟨2,188,k,by omega,.inr ⟨.inl rfl,hne⟩,rfl,?_⟩
   simp only [if_pos k]
   exact ok_icall p h e he v h0 hFv fun k hk'=>hFt k (by rw [hk] at hk' ⊢;exact List.mem_cons_of_mem _ hk')
  ·refine .inr ⟨4,190,k,by omega,.inr ⟨.inr (.inl rfl),hne⟩,rfl,?_⟩
   simp only [if_pos k,if_neg (show ¬ e.kind=2 by omega)]
   exact .of (ok_isel p h e he v h0 hFv)
  ·refine .inr ⟨5,191,k,by omega,.inr ⟨.inr (.inr rfl),hne⟩,rfl,?_⟩
   simp only [if_neg (show ¬ e.kind=4 by omega),if_neg (show ¬ e.kind=2 by omega)]
   exact .of (ok_iasrt p h e he v h0 hFv)
abbrev q1jx:List Nat:=[0,1,2,3,4,5,6,7,8,9,45,60]
theorem ok_ifind (p:Prog)(h:p.Sm):∀ e:Ex,e.Sm→CallOK prog 141 [ckV p,exV e] (toV (typeI (cl0 p) e)):=by
 intro e
 induction e using Ex.induct with | _ e ih=>?_
 intro he
 have hrule:=rule_of p h e he fun k hk=>ih k hk (he.kids.2 k hk)
 have hS:=typeI_Sm h e he
 have herr:=@typeIN_err (cl0 p) e (e.kids.map (typeI (cl0 p)))
 have hw1:=ok_wrong e
 have hkl:=he.kids.1
 have TA:prog.underlying 231=some (.array 6 185):=by kernel_rfl
 have TB:tsize prog 185=some 1:=by kernel_rfl
 have TD:tagg prog 184=some true:=by kernel_rfl
 have TE:tsize prog 184=some 4:=by kernel_rfl
 have TS:tsize prog 231=some 6:=by kernel_rfl
 have TZ:tzero prog 231=some [.d .nilfn,.d .nilfn,.d .nilfn,.d .nilfn,.d .nilfn,.d .nilfn]:=by kernel_rfl
 have hps:∀ (i:Nat) (q:Nat × Nat),[(0,1),(1,1),(2,1),(3,1),(4,1),(5,1)][i]? = some q→q=(i*1,1):=by
  intro i q hq
  match i with
  | 0 | 1 | 2 | 3 | 4 | 5=>simp at hq;rw [← hq]
  | i+6=>simp at hq
 have TC:tagg prog 185=some false:=by kernel_rfl
 rw [typeI_eq] at hS ⊢
 generalize typeIN (cl0 p) e (e.kids.map (typeI (cl0 p)))=z at *
 refine cB func141 ?_
 refine sR q1jx ?_
 (refine AWp.freeze 3 rfl rfl (wk [(2,.box 2 0),(3,.dptr (exC e) 0),(4,.box 4 0)] [(2,.cells (ckS p)),(4,ty0C)] ?_))
 refine AWp.seq (AWp.region [2,3,4,6] [2,4,6] (by decide +kernel) ?_)
 refine⟨true,rfl,by simp [dstOK],fun _=>⟨_,_,_,opT_loadBoxAgg (k:=2) (off:=0) (n:=4) (cs:=ckS p) rfl rfl (by simp) TD TE (Nat.le_refl 4) rfl,?_⟩,fun h=>by cases h⟩
 refine⟨true,rfl,by simp [dstOK],fun _=>⟨_,_,_,opT_boundL (ck_rec p) rfl rfl,?_⟩,fun h=>by cases h⟩
 refine⟨true,rfl,by simp [dstOK],fun _=>⟨_,_,_,opT_loadBoxAgg (k:=2) (off:=0) (n:=4) (cs:=ckS p) rfl rfl (by simp) TD TE (Nat.le_refl 4) rfl,?_⟩,fun h=>by cases h⟩
 refine⟨true,rfl,by simp [dstOK],fun _=>⟨_,_,_,opT_boundL (ck_rec p) rfl rfl,?_⟩,fun h=>by cases h⟩
 refine⟨true,rfl,by simp [dstOK],fun _=>⟨_,_,_,opT_loadBoxAgg (k:=2) (off:=0) (n:=4) (cs:=ckS p) rfl rfl (by simp) TD TE (Nat.le_refl 4) rfl,?_⟩,fun h=>by cases h⟩
 refine⟨true,rfl,by simp [dstOK],fun _=>⟨_,_,_,opT_boundL (ck_rec p) rfl rfl,?_⟩,fun h=>by cases h⟩
 refine⟨true,rfl,by simp [dstOK],fun _=>⟨_,_,_,opT_loadBoxAgg (k:=2) (off:=0) (n:=4) (cs:=ckS p) rfl rfl (by simp) TD TE (Nat.le_refl 4) rfl,?_⟩,fun h=>by cases h⟩
 refine⟨true,rfl,by simp [dstOK],fun _=>⟨_,_,_,opT_boundL (ck_rec p) rfl rfl,?_⟩,fun h=>by cases h⟩
 refine⟨true,rfl,by simp [dstOK],fun _=>⟨_,_,_,opT_loadBoxAgg (k:=2) (off:=0) (n:=4) (cs:=ckS p) rfl rfl (by simp) TD TE (Nat.le_refl 4) rfl,?_⟩,fun h=>by cases h⟩
 refine⟨true,rfl,by simp [dstOK],fun _=>⟨_,_,_,opT_boundL (ck_rec p) rfl rfl,?_⟩,fun h=>by cases h⟩
 refine⟨true,rfl,by simp [dstOK],fun _=>⟨_,_,_,opT_buildArr (ps:=[(0,1),(1,1),(2,1),(3,1),(4,1),(5,1)]) (out:=rulesA p) rfl TA TB TZ hps rfl rfl rfl,?_⟩,fun h=>by cases h⟩
 refine⟨true,rfl,by simp [dstOK],fun _=>⟨_,_,_,opT_alloc (k:=6) (by decide) rfl TZ,?_⟩,fun h=>by cases h⟩
 refine⟨true,rfl,by simp [dstOK],fun _=>⟨_,_,_,opT_storeBox (k:=6) (off:=0) (cs:=[.d .nilfn,.d .nilfn,.d .nilfn,.d .nilfn,.d .nilfn,.d .nilfn]) (us:=rulesA p) rfl rfl (List.Mem.head _) rfl TS (Nat.le_refl 6),?_⟩,fun h=>by cases h⟩
 refine AWp.weaken (sl':=[(2,.box 2 0),(3,.dptr (exC e) 0),(4,.box 4 0),(6,.box 6 0)]) (bx':=[(2,.cells (ckS p)),(4,ty0C),(6,.cells (rulesA p))])
  ⟨.inr (.inl rfl),.inr (.inl rfl),.inr (.inl rfl),.inr (.inl rfl),trivial⟩ ⟨rfl,rfl,rfl,trivial⟩ ?_
 rcases hrule with ⟨rfl,hk⟩ | ⟨j,f,hj,hj6,hjk,hcell,t,ht,hcall⟩
 ·unfold toV at *
  have n1:¬ e.kind=1:=by omega
  have n3:¬ e.kind=3:=by omega
  refine sR2 n1 n3 q1jx ?_
  refine sK fun K1 u1=>?_
  rcases hk with hk | hk | ⟨hk,hl⟩
  ·refine sR1 hk q1jx ?_
   refine tI ?_
   refine sC hw1 q1jx ?_
   exact aR
  ·have hk':¬ e.kind < 1:=by omega
   refine sR2 hk' hk q1jx ?_
   refine tI ?_
   refine sC hw1 q1jx ?_
   exact aR
  ·have hk':¬ e.kind < 1:=by omega
   have hk6:¬ 6≤e.kind:=by omega
   have hl':(e.kids.length:Int)=0:=by omega
   refine sR3 hk' hk6 hl' q1jx ?_
   refine tI ?_
   refine sC hw1 q1jx ?_
   exact aR
 ·have hk':¬ e.kind < 1:=by omega
  have hk6:¬ 6≤e.kind:=by omega
  have hcl:=ok_Clone z.1 hS
  obtain⟨x,o⟩:=z
  have hq:0+j*1=j:=by omega
  unfold toV
  have hpre:(decide (e.kind=1)=true∨(decide (e.kind=1)=false∧decide (e.kind=3)=true))∨(decide (e.kind=1)=false∧decide (e.kind=3)=false)∧¬ (e.kids.length:Int)=0:=by
   simp only [decide_eq_true_eq,decide_eq_false_iff_not];omega
  cases o with
  | some q =>
   obtain rfl:=herr rfl
   simp only [errD] at hcall ⊢
   rcases hpre with (m1 | ⟨m1,m3⟩) | ⟨⟨m1,m3⟩,hl⟩
   (refine sQ q1jx fun K z=>?_;simp -implicitDefEqProofs only [EV,Nat.reduceEqDiff,reduceCtorEq,TF3,TF28,m1,decide_not];apply z;clear z K)
   refine kR2 hk' hk6 q1jx fun K1 u1=>?_
   refine kI u1 ?_
   clear u1 K1
   rotate_left
   (refine sQ q1jx fun K z=>?_;simp -implicitDefEqProofs only [EV,Nat.reduceEqDiff,reduceCtorEq,TF3,TF28,m1,m3,decide_not];apply z;clear z K)
   refine kR2 hk' hk6 q1jx fun K1 u1=>?_
   refine kI u1 ?_
   clear u1 K1
   rotate_left
   (refine sQ q1jx fun K z=>?_;simp -implicitDefEqProofs only [EV,Nat.reduceEqDiff,reduceCtorEq,TF3,TF28,m1,m3,decide_not];apply z;clear z K)
   refine kR3 hk' hk6 hl q1jx fun K1 u1=>?_
   refine kI u1 ?_
   clear u1 K1
   rotate_left
   all_goals
    (refine dC q1jx [8] 12 8 8 9 [9,10] [10] (.box 8 0) 9 mixed fun K z=>?_;refine ev ?_;refine⟨_,opQ_indexArr (j:=j) rfl rfl hj TA TB hj6 hq,?_⟩;(try refine ev1 hcell ?_);refine⟨_,opQ_callBoundL (ck_rec p) (args:=[.tmp 55]) rfl rfl hcall rfl,?_⟩;(try refine ev ?_);refine cS0 (some 8) 10 10 (.box 8 0) [8] ?_;(try refine ev ?_);refine cSk ?_;(try refine ev ?_);refine cS1 none 12 11 (.tuple []) [] ?_;(try refine ev ?_);refine cSk ?_;(try refine ev ?_);refine chV_end rfl ?_;(try refine ev ?_);apply z;clear z K)
    refine kR q1jx fun K1 u1=>?_
    refine tI ?_
    refine sR q1jx ?_
    exact aR
  | none =>
   obtain rfl:=ht rfl
   simp only [errD] at hcall ⊢
   rcases hpre with (m1 | ⟨m1,m3⟩) | ⟨⟨m1,m3⟩,hl⟩
   (refine sQ q1jx fun K z=>?_;simp -implicitDefEqProofs only [EV,Nat.reduceEqDiff,reduceCtorEq,TF3,TF28,m1,decide_not];apply z;clear z K)
   refine kR2 hk' hk6 q1jx fun K1 u1=>?_
   refine kI u1 ?_
   clear u1 K1
   rotate_left
   (refine sQ q1jx fun K z=>?_;simp -implicitDefEqProofs only [EV,Nat.reduceEqDiff,reduceCtorEq,TF3,TF28,m1,m3,decide_not];apply z;clear z K)
   refine kR2 hk' hk6 q1jx fun K1 u1=>?_
   refine kI u1 ?_
   clear u1 K1
   rotate_left
   (refine sQ q1jx fun K z=>?_;simp -implicitDefEqProofs only [EV,Nat.reduceEqDiff,reduceCtorEq,TF3,TF28,m1,m3,decide_not];apply z;clear z K)
   refine kR3 hk' hk6 hl q1jx fun K1 u1=>?_
   refine kI u1 ?_
   clear u1 K1
   rotate_left
   all_goals
    (refine dC q1jx [8] 12 8 8 9 [9,10] [10] (.box 8 0) 9 mixed fun K z=>?_;refine ev ?_;refine⟨_,opQ_indexArr (j:=j) rfl rfl hj TA TB hj6 hq,?_⟩;(try refine ev1 hcell ?_);refine⟨_,opQ_callBoundL (ck_rec p) (args:=[.tmp 55]) rfl rfl hcall rfl,?_⟩;(try refine ev ?_);refine cS0 (some 8) 10 10 (.box 8 0) [8] ?_;(try refine ev ?_);refine cSk ?_;(try refine ev ?_);refine cS1 none 12 11 (.tuple []) [] ?_;(try refine ev ?_);refine cSk ?_;(try refine ev ?_);refine chV_end rfl ?_;(try refine ev ?_);apply z;clear z K)
    refine kR q1jx fun K1 u1=>?_
    refine kI u1 ?_
    clear u1 K1
    refine sC hcl q1jx ?_
    exact aR
abbrev q2jx:List Nat:=[0,1,2,3,4,9,10,11]
theorem ok_itype (p:Prog)(e:Ex)(hF:CallOK prog 141 [ckV p,exV e] (toV (typeI (cl0 p) e))) :
  CallOK prog 91 [.dptr (tabC p) 0,boolV false,.d (.slice (foR [])),.d (.slice (paR [])),exV e] (toV (typeI (cl0 p) e)):=by
 unfold toV at *
 generalize typeI (cl0 p) e=z at *
 obtain⟨t,o⟩:=z
 cases o with
 | none =>
  simp only [errD] at hF ⊢
  refine cB func91 ?_
  refine sR q2jx ?_
  refine sC hF q2jx ?_
  exact aR
 | some q =>
  simp only [errD] at hF ⊢
  refine cB func91 ?_
  refine sR q2jx ?_
  refine sC hF q2jx ?_
  exact aR
theorem ok_iclosed (p:Prog)(e:Ex)(hF:CallOK prog 141 [ckV p,exV e] (toV (typeI (cl0 p) e))) :
  CallOK prog 49 [.dptr (tabC p) 0,exV e] (toV (typeI (cl0 p) e)):=by
 have hT:=ok_itype p e hF
 unfold toV at *
 generalize typeI (cl0 p) e=z at *
 obtain⟨t,o⟩:=z
 cases o with
 | none =>
  simp only [errD] at hT ⊢
  refine cB func49 ?_
  refine sR [0,1,3,4,5] ?_
  refine sC hT [0,1,3,4,5] ?_
  exact aR
 | some q =>
  simp only [errD] at hT ⊢
  refine cB func49 ?_
  refine sR [0,1,3,4,5] ?_
  refine sC hT [0,1,3,4,5] ?_
  exact aR
end Go.Abs
