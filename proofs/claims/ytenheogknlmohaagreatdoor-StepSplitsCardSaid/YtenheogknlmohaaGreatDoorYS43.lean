/- step.Step; the walk of StepMatchesReference, given that awake answers true -/
import Derived.Test.YtenheogknlmohaaGreatDoorYS42
import Derived.Test.YtenheogknlmohaaGreatDoorYP13
namespace Go.Abs
set_option linter.unusedSimpArgs false
set_option linter.unusedVariables false
open Go Go.Proofs
set_option maxRecDepth 100000
set_option maxHeartbeats 1000000
theorem ok_Few05 (e:Ex):CallOK Tryz.prog 14 [exV e] (boolV (decide (e.count 0≤250))):=by
 have h:=ok_Count05 e 0 (by decide) (by decide)
 (refine CallOK.of_body Tryz.func14 rfl (by decide) (by rw [Tryz.ntmps14];simp) ?_;rw [Tryz.ntmps14])
 (refine AWp.seqR [0,1,2] [] (by decide +kernel) fun K hK=>?_;simp -implicitDefEqProofs only [EV,Nat.reduceEqDiff,Nat.reduceLeDiff,reduceCtorEq,];refine hK _ _ ?_;clear hK K)
 (refine AWp.seqR [0,1,2] [] (by decide +kernel) fun K hK=>?_;simp -implicitDefEqProofs only [EV,Nat.reduceAdd,Nat.reduceEqDiff,reduceCtorEq,TF28];refine⟨_,.inl ⟨_,rfl,h,rfl⟩,?_⟩;(try simp -implicitDefEqProofs only [EV,Nat.reduceEqDiff,reduceCtorEq,]);refine hK _ _ ?_;clear hK K)
 exact AWp.ret ⟨_,by rw [Tryz.results14];rfl,rfl⟩
theorem sameT_refl (t:Ty):sameT t t=true:=(sameT_er t t).2 rfl
theorem sameTL_refl:∀ l:List Ty,sameTL l l=true
 | []=>by rw [sameTL]
 | t::l=>by rw [sameTL,sameT_refl,sameTL_refl l];rfl
theorem sameEL_refl:∀ l:List Ex,(∀ x,x∈l→sameE x x=true)→sameEL l l=true
 | [],_=>by rw [sameEL]
 | t::l,h=>by rw [sameEL,h t (by simp),sameEL_refl l (fun x hx=>h x (by simp [hx]))];rfl
theorem sameE_refl (e:Ex):sameE e e=true:=by
 induction e using Ex.induct with
 | h e ih=>rw [sameE_eq,sameT_refl,sameTL_refl,sameEL_refl _ ih];simp
theorem rdxE_sm (e:Ex):e.Sm→(rdxE e).1.Sm:=by
 induction e using Ex.induct with
 | h e ih =>
 intro he
 rw [rdxE_eq]
 rcases rdxL_cases e.kids with ⟨_,h2,_⟩ | ⟨i,k,_,h2,_,_,h5⟩
 ·rw [h2];exact he
 ·rw [h5]
  have hkm:=List.mem_of_getElem? h2
  exact ih k hkm (he.kids.2 k hkm)
theorem ok_Step (p:Prog)(h:p.Sm)(e:Ex)(he:e.Sm)(hs:(stepE p e).1.Sm):CallOK Tryz.prog 17 [prV p,exV e] (resV (stepE p e)):=by
 have h1:=ok_New p h
 have h2:=ok_mstep p h e he
 generalize stepE p e=r at *
 obtain⟨x,o⟩:=r
 have h3:=ok_EClone x hs
 (refine CallOK.of_body Tryz.func17 rfl (by decide) (by rw [Tryz.ntmps17];simp) ?_;rw [Tryz.ntmps17])
 (refine AWp.seqR [0,1,2,3,4,5,6,7] [] (by decide +kernel) fun K hK=>?_;simp -implicitDefEqProofs only [EV,Nat.reduceAdd,Nat.reduceEqDiff,Nat.reduceBEq,Nat.reduceLeDiff,reduceCtorEq,TF28,];refine hK _ _ ?_;clear hK K)
 (refine AWp.seqDC [0,1,2,3,4,5,6,7] [6] 11 6 6 8 [8,9] [9] (.box 6 0) rfl mixed (by decide +kernel) (by decide +kernel) (by decide +kernel) (by decide) ⟨8,by decide,by decide,by decide,rfl⟩ (by simp) rfl fun K hK=>?_;simp -implicitDefEqProofs only [EV,Nat.reduceAdd,Nat.reduceEqDiff,reduceCtorEq,TF30,TF95];refine⟨_,.inl ⟨_,rfl,h1,rfl⟩,?_⟩;(try simp -implicitDefEqProofs only [EV,Nat.reduceAdd,Nat.reduceEqDiff,reduceCtorEq,TF28,]);refine⟨_,.inl ⟨_,rfl,h2,rfl⟩,?_⟩;(try simp -implicitDefEqProofs only [EV,Nat.reduceEqDiff,reduceCtorEq,]);refine chV_step0 (dst:=some 6) (e:=9) (i1:=9) (f:=(.box 6 0)) (ps:=[6]) rfl rfl rfl rfl rfl rfl ?_;(try simp -implicitDefEqProofs only [EV,Nat.reduceEqDiff,Nat.reduceLeDiff,TF28,]);refine chK_ok rfl (by simp) ?_;(try simp -implicitDefEqProofs only [EV,]);refine chV_step1 (dst:=none) (e:=11) (i1:=10) (f:=.tuple []) (ps:=[]) rfl rfl rfl rfl rfl rfl ?_;(try simp -implicitDefEqProofs only [EV,Nat.reduceAdd,Nat.reduceEqDiff,reduceCtorEq,TF28,]);refine chK_ok rfl (by simp) ?_;(try simp -implicitDefEqProofs only [EV,Nat.reduceEqDiff,reduceCtorEq,]);refine chV_end rfl ?_;(try simp -implicitDefEqProofs only [EV,Nat.reduceEqDiff,Nat.reduceBEq,reduceCtorEq,]);refine hK _ _ ?_;clear hK K)
 (refine AWp.seqR [0,1,2,3,4,5,6,7] [] (by decide +kernel) fun K hK=>?_;simp -implicitDefEqProofs only [EV,Nat.reduceAdd,Nat.reduceEqDiff,reduceCtorEq,TF28,];refine⟨_,.inl ⟨_,rfl,h3,rfl⟩,?_⟩;(try simp -implicitDefEqProofs only [EV,Nat.reduceAdd,Nat.reduceEqDiff,reduceCtorEq,]);refine hK _ _ ?_;clear hK K)
 exact AWp.ret ⟨_,by rw [Tryz.results17];rfl,rfl⟩
theorem law25_matches (haw:CallOK Tryz.prog 12 [] (boolV true))(p:Prog)(e:Ex):CallOK Tryz.prog 3 [prV p,exV e] (boolV true):=by
 have hf1:=ok_Few06 p
 have hf2:=ok_Few05 e
 by_cases g1:p.count≤600
 ·rw [decide_eq_true g1] at hf1
  by_cases g2:e.count 0≤250
  ·rw [decide_eq_true g2] at hf2
   have hp:p.Sm:=(Prog.count_sm p g1).1
   have he:e.Sm:=Ex.count_sm e 0 (by decide) (by omega)
   have c1:=ok_RStep p (fun e he _=>ok_redex p hp e he) e he
   have c2:=ok_SRedex e he
   have c3:=ok_RRedex e he
   have c4:(rdxE e).1.Sm:=rdxE_sm e he
   have c6:=ok_Step p hp e he
   generalize stepE p e=r at *
   obtain⟨x,o⟩:=r
   generalize rdxE e=r at *
   obtain⟨y,b⟩:=r
   simp only at c4 c6
   have c5:=ok_Count05 x 0 (by decide) (by decide)
   (refine CallOK.of_body Tryz.func3 rfl (by decide) (by rw [Tryz.ntmps3];simp) ?_;rw [Tryz.ntmps3])
   (refine AWp.seqR [0,1,2,3,4,5,6,7,8,9,10,11,12,24,34] [] (by decide +kernel) fun K hK=>?_;simp -implicitDefEqProofs only [EV,Nat.reduceAdd,Nat.reduceEqDiff,Nat.reduceBEq,Nat.reduceLeDiff,reduceCtorEq,];refine hK _ _ ?_;clear hK K)
   refine AWp.seqK fun K1 hK1=>?_
   (refine AWp.seqR [0,1,2,3,4,5,6,7,8,9,10,11,12,24,34] [] (by decide +kernel) fun K hK=>?_;simp -implicitDefEqProofs only [EV,Nat.reduceAdd,Nat.reduceEqDiff,reduceCtorEq,];refine⟨_,.inl ⟨_,rfl,haw,rfl⟩,?_⟩;(try simp -implicitDefEqProofs only [EV,Nat.reduceAdd,Nat.reduceEqDiff,reduceCtorEq,TF30]);refine⟨_,.inl ⟨_,rfl,hf1,rfl⟩,?_⟩;(try simp -implicitDefEqProofs only [EV,Nat.reduceAdd,Nat.reduceEqDiff,reduceCtorEq,TF28]);refine⟨_,.inl ⟨_,rfl,hf2,rfl⟩,?_⟩;(try simp -implicitDefEqProofs only [EV,Nat.reduceEqDiff,reduceCtorEq,]);refine hK _ _ ?_;clear hK K)
   refine AWp.skipIfK rfl hK1 ?_
   clear hK1 K1
   (refine AWp.seqR [0,1,2,3,4,5,6,7,8,9,10,11,12,24,34] [] (by decide +kernel) fun K hK=>?_;simp -implicitDefEqProofs only [EV,Nat.reduceAdd,Nat.reduceEqDiff,reduceCtorEq,TF28,TF30];refine⟨_,.inl ⟨_,rfl,c1,rfl⟩,?_⟩;(try simp -implicitDefEqProofs only [EV,Nat.reduceAdd,Nat.reduceEqDiff,Nat.reduceBEq,Nat.reduceLeDiff,reduceCtorEq,TF28]);refine hK _ _ ?_;clear hK K)
   by_cases g3:x.count 0 > 2000
   ·refine AWp.seqK fun K1 hK1=>?_
    (refine AWp.seqR [0,1,2,3,4,5,6,7,8,9,10,11,12,24,34] [] (by decide +kernel) fun K hK=>?_;simp -implicitDefEqProofs only [EV,Nat.reduceAdd,Nat.reduceEqDiff,reduceCtorEq,TF28,];refine⟨_,.inl ⟨_,rfl,c5,rfl⟩,?_⟩;(try simp -implicitDefEqProofs only [EV,Nat.reduceEqDiff,reduceCtorEq,g3]);refine hK _ _ ?_;clear hK K)
    refine AWp.takeIfK rfl ?_
    (refine AWp.seqR [0,1,2,3,4,5,6,7,8,9,10,11,12,24,34] [] (by decide +kernel) fun K hK=>?_;simp -implicitDefEqProofs only [EV,Nat.reduceEqDiff,reduceCtorEq,];refine hK _ _ ?_;clear hK K)
    exact AWp.ret ⟨_,by rw [Tryz.results3];rfl,rfl⟩
   ·have hx:x.Sm:=Ex.count_sm x 0 (by decide) (by omega)
    have c7:=c6 hx
    have c8:=ok_RefSame x hx x
    rw [sameE_refl] at c8
    have c9:=ok_RefSame y c4 y
    rw [sameE_refl] at c9
    refine AWp.seqK fun K1 hK1=>?_
    (refine AWp.seqR [0,1,2,3,4,5,6,7,8,9,10,11,12,24,34] [] (by decide +kernel) fun K hK=>?_;simp -implicitDefEqProofs only [EV,Nat.reduceAdd,Nat.reduceEqDiff,reduceCtorEq,TF28,];refine⟨_,.inl ⟨_,rfl,c5,rfl⟩,?_⟩;(try simp -implicitDefEqProofs only [EV,Nat.reduceEqDiff,reduceCtorEq,g3]);refine hK _ _ ?_;clear hK K)
    refine AWp.skipIfK rfl hK1 ?_
    clear hK1 K1
    (refine AWp.seqR [0,1,2,3,4,5,6,7,8,9,10,11,12,24,34] [] (by decide +kernel) fun K hK=>?_;simp -implicitDefEqProofs only [EV,Nat.reduceAdd,Nat.reduceEqDiff,reduceCtorEq,TF28,TF30];refine⟨_,.inl ⟨_,rfl,c7,rfl⟩,?_⟩;(try simp -implicitDefEqProofs only [EV,Nat.reduceAdd,Nat.reduceEqDiff,Nat.reduceBEq,Nat.reduceLeDiff,reduceCtorEq,TF28]);refine hK _ _ ?_;clear hK K)
    (refine AWp.seqR [0,1,2,3,4,5,6,7,8,9,10,11,12,24,34] [] (by decide +kernel) fun K hK=>?_;simp -implicitDefEqProofs only [EV,Nat.reduceAdd,Nat.reduceEqDiff,reduceCtorEq,TF28];refine⟨_,.inl ⟨_,rfl,c2,rfl⟩,?_⟩;(try simp -implicitDefEqProofs only [EV,Nat.reduceAdd,Nat.reduceEqDiff,Nat.reduceBEq,Nat.reduceLeDiff,reduceCtorEq,TF28]);refine hK _ _ ?_;clear hK K)
    (refine AWp.seqR [0,1,2,3,4,5,6,7,8,9,10,11,12,24,34] [] (by decide +kernel) fun K hK=>?_;simp -implicitDefEqProofs only [EV,Nat.reduceAdd,Nat.reduceEqDiff,reduceCtorEq,TF28];refine⟨_,.inl ⟨_,rfl,c3,rfl⟩,?_⟩;(try simp -implicitDefEqProofs only [EV,Nat.reduceAdd,Nat.reduceEqDiff,Nat.reduceBEq,Nat.reduceLeDiff,reduceCtorEq,TF28]);refine hK _ _ ?_;clear hK K)
    (refine AWp.seqR [0,1,2,3,4,5,6,7,8,9,10,11,12,24,34] [] (by decide +kernel) fun K hK=>?_;simp -implicitDefEqProofs only [EV,Nat.reduceAdd,Nat.reduceEqDiff,reduceCtorEq,TF28,];refine⟨_,.inl ⟨_,rfl,c8,rfl⟩,?_⟩;(try simp -implicitDefEqProofs only [EV,Nat.reduceAdd,Nat.reduceEqDiff,reduceCtorEq,TF4,TF28,beq_self_eq_true]);refine⟨_,.inl ⟨_,rfl,c9,rfl⟩,?_⟩;(try simp -implicitDefEqProofs only [EV,]);refine hK _ _ ?_;clear hK K)
    exact AWp.ret ⟨_,by rw [Tryz.results3];rfl,rfl⟩
  ·rw [decide_eq_false g2] at hf2
   (refine CallOK.of_body Tryz.func3 rfl (by decide) (by rw [Tryz.ntmps3];simp) ?_;rw [Tryz.ntmps3])
   (refine AWp.seqR [0,1,2,3,4,5,6,7,8,9,10,11,12,24,34] [] (by decide +kernel) fun K hK=>?_;simp -implicitDefEqProofs only [EV,Nat.reduceAdd,Nat.reduceEqDiff,Nat.reduceBEq,Nat.reduceLeDiff,reduceCtorEq,];refine hK _ _ ?_;clear hK K)
   refine AWp.seqK fun K1 hK1=>?_
   (refine AWp.seqR [0,1,2,3,4,5,6,7,8,9,10,11,12,24,34] [] (by decide +kernel) fun K hK=>?_;simp -implicitDefEqProofs only [EV,Nat.reduceAdd,Nat.reduceEqDiff,reduceCtorEq,];refine⟨_,.inl ⟨_,rfl,haw,rfl⟩,?_⟩;(try simp -implicitDefEqProofs only [EV,Nat.reduceAdd,Nat.reduceEqDiff,reduceCtorEq,TF30]);refine⟨_,.inl ⟨_,rfl,hf1,rfl⟩,?_⟩;(try simp -implicitDefEqProofs only [EV,Nat.reduceAdd,Nat.reduceEqDiff,reduceCtorEq,TF28]);refine⟨_,.inl ⟨_,rfl,hf2,rfl⟩,?_⟩;(try simp -implicitDefEqProofs only [EV,Nat.reduceEqDiff,reduceCtorEq,]);refine hK _ _ ?_;clear hK K)
   refine AWp.takeIfK rfl ?_
   (refine AWp.seqR [0,1,2,3,4,5,6,7,8,9,10,11,12,24,34] [] (by decide +kernel) fun K hK=>?_;simp -implicitDefEqProofs only [EV,Nat.reduceAdd,Nat.reduceEqDiff,reduceCtorEq,];refine⟨_,.inl ⟨_,rfl,haw,rfl⟩,?_⟩;(try simp -implicitDefEqProofs only [EV,]);refine hK _ _ ?_;clear hK K)
   exact AWp.ret ⟨_,by rw [Tryz.results3];rfl,rfl⟩
 ·rw [decide_eq_false g1] at hf1
  (refine CallOK.of_body Tryz.func3 rfl (by decide) (by rw [Tryz.ntmps3];simp) ?_;rw [Tryz.ntmps3])
  (refine AWp.seqR [0,1,2,3,4,5,6,7,8,9,10,11,12,24,34] [] (by decide +kernel) fun K hK=>?_;simp -implicitDefEqProofs only [EV,Nat.reduceAdd,Nat.reduceEqDiff,Nat.reduceBEq,Nat.reduceLeDiff,reduceCtorEq,];refine hK _ _ ?_;clear hK K)
  refine AWp.seqK fun K1 hK1=>?_
  (refine AWp.seqR [0,1,2,3,4,5,6,7,8,9,10,11,12,24,34] [] (by decide +kernel) fun K hK=>?_;simp -implicitDefEqProofs only [EV,Nat.reduceAdd,Nat.reduceEqDiff,reduceCtorEq,];refine⟨_,.inl ⟨_,rfl,haw,rfl⟩,?_⟩;(try simp -implicitDefEqProofs only [EV,Nat.reduceAdd,Nat.reduceEqDiff,reduceCtorEq,TF30]);refine⟨_,.inl ⟨_,rfl,hf1,rfl⟩,?_⟩;(try simp -implicitDefEqProofs only [EV,Nat.reduceEqDiff,reduceCtorEq,]);refine hK _ _ ?_;clear hK K)
  refine AWp.takeIfK rfl ?_
  (refine AWp.seqR [0,1,2,3,4,5,6,7,8,9,10,11,12,24,34] [] (by decide +kernel) fun K hK=>?_;simp -implicitDefEqProofs only [EV,Nat.reduceAdd,Nat.reduceEqDiff,reduceCtorEq,];refine⟨_,.inl ⟨_,rfl,haw,rfl⟩,?_⟩;(try simp -implicitDefEqProofs only [EV,]);refine hK _ _ ?_;clear hK K)
  exact AWp.ret ⟨_,by rw [Tryz.results3];rfl,rfl⟩
end Go.Abs
