/- the walk of StepKeeps, given infer.Closed -/
import Derived.Test.YtenheogknlmohaaGreatDoorKS61
import Derived.Test.YtenheogknlmohaaGreatDoorKT06
namespace Go.Abs
set_option maxHeartbeats 1000000
set_option linter.unusedSimpArgs false
set_option linter.unusedVariables false
open Go Go.Proofs Tryz
set_option maxRecDepth 100000
set_option maxHeartbeats 8000000
abbrev q1Dx:List Nat:=[0,1,2,3,4,5,6,7,8,10,11,12,13,14,15,42,64,82]
theorem law25_keeps' (hCl:∀ (p:Prog)(e:Ex),p.Sm→e.Sm→CallOK prog 49 [.dptr (tabC p) 0,exV e] (.tuple [tyV (typeI (ctx0 p) e).1,.d (errD 4 (typeI (ctx0 p) e).2)]))(p:Prog)(e:Ex):CallOK prog 11 [prV p,exV e] (boolV true):=by
 have haw:=ok_awake25
 have hf1:=ok_Few06 p
 have hf2:=ok_Few05 e
 by_cases g1:p.count≤600
 rotate_left
 ·rw [decide_eq_false g1] at hf1
  refine cB func11 ?_
  refine sR q1Dx ?_
  refine sK fun K1 u1=>?_
  (refine sV q1Dx fun K z=>?_;refine cc haw ?_;refine cc hf1 ?_;apply z;clear z K)
  refine tI ?_
  refine sC haw q1Dx ?_
  exact aR
 rw [decide_eq_true g1] at hf1
 have hfit:=Prog.count_Fit p g1
 have hr1:=ok_Right06 p hfit.sm (Prog.count_Nn p g1)
 rcases Bool.eq_false_or_eq_true p.right with g2 | g2
 rotate_left
 ·rw [g2] at hr1
  refine cB func11 ?_
  refine sR q1Dx ?_
  refine sK fun K1 u1=>?_
  (refine sV q1Dx fun K z=>?_;refine cc haw ?_;refine cc hf1 ?_;refine cc hr1 ?_;apply z;clear z K)
  refine tI ?_
  refine sC haw q1Dx ?_
  exact aR
 rw [g2] at hr1
 by_cases g3:e.count 0≤250
 rotate_left
 ·rw [decide_eq_false g3] at hf2
  refine cB func11 ?_
  refine sR q1Dx ?_
  refine sK fun K1 u1=>?_
  (refine sV q1Dx fun K z=>?_;refine cc haw ?_;refine cc hf1 ?_;refine cc hr1 ?_;refine cc hf2 ?_;apply z;clear z K)
  refine tI ?_
  refine sC haw q1Dx ?_
  exact aR
 rw [decide_eq_true g3] at hf2
 have hr2:=ok_Right05 e (Ex.count_Nn e 0 (by omega) (by omega))
 have hsm:e.Sm:=Ex.count_sm e 0 (by omega) (by omega)
 rcases Bool.eq_false_or_eq_true e.right with g4 | g4
 rotate_left
 ·rw [g4] at hr2
  refine cB func11 ?_
  refine sR q1Dx ?_
  refine sK fun K1 u1=>?_
  (refine sV q1Dx fun K z=>?_;refine cc haw ?_;refine cc hf1 ?_;refine cc hr1 ?_;refine cc hf2 ?_;refine cc hr2 ?_;apply z;clear z K)
  refine tI ?_
  refine sC haw q1Dx ?_
  exact aR
 rw [g4] at hr2
 have hpr:=ok_Program17 p hfit true
 have hm0:(ctx0 p).Sm:=⟨hfit.sm,by simp,by simp,by simp,by simp⟩
 have hty:=ok_Type16 (ctx0 p) hm0 e hsm
 have hst:=ok_Step p hfit.sm e hsm
 have hrs:=ok_RStep p (fun e he _=>ok_redex p hfit.sm e he) e hsm
 have hys:=stepE_Sm hfit.sm e hsm
 have hst:=hst hys
 have hty2:=ok_Type16 (ctx0 p) hm0 (stepE p e).1 hys
 have hcl:=hCl p (stepE p e).1 hfit.sm hys
 have hco:=ok_Count05 (stepE p e).1 0 (by decide) (by decide)
 have hnew:=ok_New p hfit.sm
 have hlaw:=@keeps_law p e g2
 have hxS:=typeE_Sm hm0 e hsm
 have hyS:=typeE_Sm hm0 (stepE p e).1 hys
 generalize progT p true=rp at *
 obtain⟨q,b,l⟩:=rp
 cases b with
 | true =>
  refine cB func11 ?_
  refine sR q1Dx ?_
  refine sK fun K1 u1=>?_
  (refine sV q1Dx fun K z=>?_;refine cc haw ?_;refine cc hf1 ?_;refine cc hr1 ?_;refine cc hf2 ?_;refine cc hr2 ?_;refine cc hpr ?_;apply z;clear z K)
  refine tI ?_
  refine sC haw q1Dx ?_
  exact aR
 | false =>
  refine cB func11 ?_
  refine sR q1Dx ?_
  refine sK fun K1 u1=>?_
  (refine sV q1Dx fun K z=>?_;refine cc haw ?_;refine cc hf1 ?_;refine cc hr1 ?_;refine cc hf2 ?_;refine cc hr2 ?_;refine cc hpr ?_;apply z;clear z K)
  refine kI u1 ?_
  clear u1 K1
  have hlaw:=hlaw rfl
  generalize typeE (ctx0 p) e=z at *
  obtain⟨x,⟨q2,b2,l2⟩⟩:=z
  generalize stepE p e=r at *
  obtain⟨y,o⟩:=r
  simp only at hlaw hty2 hcl hco hys hyS hxS
  refine sR q1Dx ?_
  refine sC hty q1Dx ?_
  refine sC hrs q1Dx ?_
  cases b2 with
  | true =>
   refine kR q1Dx fun K1 u1=>?_
   refine tI ?_
   refine sR q1Dx ?_
   exact aR
  | false =>
   have hlaw:=hlaw rfl
   generalize y.count 0=cy at *
   by_cases g5:2000 < cy
   ·refine sK fun K1 u1=>?_
    (refine sV q1Dx fun K z=>?_;refine⟨_,.inl ⟨_,rfl,hco,rfl⟩,?_⟩;(try refine ev1 g5 ?_);apply z;clear z K)
    refine tI ?_
    refine sR q1Dx ?_
    exact aR
   refine sK fun K1 u1=>?_
   (refine sV q1Dx fun K z=>?_;refine⟨_,.inl ⟨_,rfl,hco,rfl⟩,?_⟩;(try refine ev1 g5 ?_);apply z;clear z K)
   refine kI u1 ?_
   clear u1 K1
   generalize typeE (ctx0 p) y=z2 at *
   obtain⟨x2,⟨q3,b3,l3⟩⟩:=z2
   simp only at hlaw hyS
   refine sC hty2 q1Dx ?_
   refine sC hst q1Dx ?_
   cases l3 with
   | true =>
    refine kR q1Dx fun K1 u1=>?_
    refine tI ?_
    refine sR q1Dx ?_
    exact aR
   | false =>
    by_cases ho:o=1
    rotate_left
    ·refine kR1 ho q1Dx fun K1 u1=>?_
     refine tI ?_
     refine sR q1Dx ?_
     exact aR
    ·obtain⟨rfl,p2,p3⟩:=hlaw ho rfl
     rw [p2] at hcl
     simp only [errD] at hcl
     have hsame:=ok_RSame x2 x2 hyS
     rw [sameT_refl] at hsame
     have himp:=ok_RImplements p hfit.sm [] (by simp) (by simp) x2 x hyS hxS
     rw [p3] at himp
     have d1:=decide_eq_true ho
     refine sK fun K1 u1=>?_
     (refine sQ q1Dx fun K z=>?_;simp -implicitDefEqProofs only [EV,Nat.reduceEqDiff,reduceCtorEq,TF4,TF42,d1,decide_not];apply z;clear z K)
     refine kI u1 ?_
     clear u1 K1
     (refine dC q1Dx [14] 10 14 14 7 [7,8] [8] (.box 14 0) 7 mixed fun K z=>?_;refine ev ?_;refine cc hnew ?_;refine cc hcl ?_;refine cS0 (some 14) 8 8 (.box 14 0) [14] ?_;(try refine ev ?_);refine cSk ?_;(try refine ev ?_);refine cS1 none 10 9 (.tuple []) [] ?_;(try refine ev ?_);refine cSk ?_;(try refine ev ?_);refine chV_end rfl ?_;(try refine ev ?_);apply z;clear z K)
     (refine sV q1Dx fun K z=>?_;refine cc hsame ?_;refine cc himp ?_;apply z;clear z K)
     exact aR
end Go.Abs
