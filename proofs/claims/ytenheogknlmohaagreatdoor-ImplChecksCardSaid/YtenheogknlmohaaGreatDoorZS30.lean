/- castingslaw13.awake -/
import Derived.Test.YtenheogknlmohaaGreatDoorZS28
namespace Go.Abs
set_option linter.unusedSimpArgs false
set_option linter.unusedVariables false
open Go Go.Proofs
set_option maxRecDepth 100000
set_option maxHeartbeats 1000000

def qAny : Str := [65, 110, 121]
def qT : Str := [84]
def qB : Str := [66]
def qx : Ty := .mk qT [] 7
def qy : Ty := .mk qAny [] 8
def qb : Ty := .mk qB [qy] 5
def qz : Ty := .mk [81] [] 3
def qF : List Formal := [⟨[97], .mk qT [] 0, 0⟩]
def qEx : Ex := .mk 0 [] (.mk [] [] 0) [] [] 0
def qSig : Sig := ⟨[], [], [], .mk [] [] 0, 0⟩
def qP : Prog := ⟨[⟨2, qAny, [], [], [], [], [], qSig, qEx, 0⟩, ⟨1, qT, [], [], [], [], [], qSig, qEx, 0⟩, ⟨1, qB, qF, [], [], [], [], qSig, qEx, 0⟩], qEx⟩
theorem qP_few : qP.count ≤ 600 := by decide +kernel
theorem qP_sm : qP.Sm := (qP.count_sm qP_few).1
theorem qt_sm (t : Ty) (h : t.count 0 ≤ 2000) : t.Sm := Ty.count_sm t 0 (by decide) h
theorem qx_sm : qx.Sm := qt_sm _ (by decide +kernel)
theorem qy_sm : qy.Sm := qt_sm _ (by decide +kernel)
theorem qb_sm : qb.Sm := qt_sm _ (by decide +kernel)
theorem qz_sm : qz.Sm := qt_sm _ (by decide +kernel)
theorem setT_nil {p : Prog} {env : List Formal} {x : Ty} (h : setU p env x = []) : setT p env x = [] := by unfold setT; rw [h]; simp [sortSi]
theorem q1 : implB qP [] qx qy = true := by
  unfold implB
  rw [show isIface qP [] qy = true by decide +kernel, if_pos rfl, setT_nil (x := qx) (List.eq_nil_of_length_eq_zero (by decide +kernel)), setT_nil (x := qy) (List.eq_nil_of_length_eq_zero (by decide +kernel))]
  rfl
theorem q2 : implB qP [] qy qx = false := by
  unfold implB
  rw [show isIface qP [] qx = false by decide +kernel, if_neg (by decide)]
  decide +kernel
theorem q3 : boundsI qP [] qF [qx] = -1 := by
  have : boundQ qP [] qF [qx] (⟨[97], .mk qT [] 0, 0⟩, qx) = false := by
    unfold boundQ implB
    rw [show isIface qP [] ((Ty.mk qT [] 0).subst (fnames qF) [qx]) = false by decide +kernel, if_neg (by decide)]
    decide +kernel
  unfold boundsI
  exact idxF_none (by intro y hy; simp only [qF, List.zip_cons_cons, List.zip_nil_right, List.mem_cons, List.not_mem_nil, or_false] at hy; subst hy; exact this)
theorem q4 : boundsI qP [] qF [qy] = 0 := by
  have : boundQ qP [] qF [qy] (⟨[97], .mk qT [] 0, 0⟩, qy) = true := by
    unfold boundQ implB
    rw [show isIface qP [] ((Ty.mk qT [] 0).subst (fnames qF) [qy]) = false by decide +kernel, if_neg (by decide)]
    decide +kernel
  unfold boundsI
  exact idxF_some (j := 0) (x := (⟨[97], .mk qT [] 0, 0⟩, qy)) rfl this (by simp)
theorem q5 : chk qP [] qx = none := by
  rw [chk_eq, show boundV [] qx = none by decide +kernel, show formalsT qP qx.name = [] by rfl]
  rw [if_neg (by decide), if_neg (by decide +kernel)]
  rfl
theorem q5y : chk qP [] qy = none := by
  rw [chk_eq, show boundV [] qy = none by decide +kernel, show formalsT qP qy.name = [] by rfl]
  rw [if_neg (by decide), if_neg (by decide +kernel)]
  rfl
theorem q6 : chk qP [] qz = some 3 := by
  rw [chk_eq, show boundV [] qz = none by decide +kernel]
  rw [if_neg (by decide), if_pos (by decide +kernel)]
  rfl
theorem q7 : chk qP [] qb = some 8 := by
  rw [chk_eq, show boundV [] qb = none by decide +kernel, show formalsT qP qb.name = qF by rfl]
  rw [if_neg (by decide), if_neg (by decide +kernel)]
  rw [show qb.args = [qy] by rfl, chkL, q5y]
  simp only [chkL, q4]
  rfl
theorem q8 : chkL qP [] [qx, qb] = some 8 := by rw [chkL, q5, chkL, q7]
theorem ok_awake : CallOK Tryz.prog 28 [] (boolV true) := by
  have hs : ∀ f : Formal, f ∈ ([] : List Formal) → f.Sm := by simp
  have hl : ([] : List Formal).length ≤ sm := by simp
  have c1 := ok_Implements qP qP_sm [] hl hs qx qy qx_sm qy_sm
  have c2 := ok_Implements qP qP_sm [] hl hs qy qx qy_sm qx_sm
  have c3 := ok_CCheck qP qP_sm [] hl hs qx qx_sm
  have c4 := ok_CCheck qP qP_sm [] hl hs qz qz_sm
  have c5 := ok_CCheck qP qP_sm [] hl hs qb qb_sm
  have c6 := ok_IsInterface qP qP_sm [] hl hs qy qy_sm
  have c7 := ok_IsInterface qP qP_sm [] hl hs qx qx_sm
  have c8 := ok_CAll qP [] [qx, qb] (by decide) (by intro t ht; simp only [List.mem_cons, List.not_mem_nil, or_false] at ht; rcases ht with rfl | rfl; exact c3; exact c5)
  have c9 := ok_Bounds qP qP_sm [] hl hs qF (by decide) (by intro f hf; exact (qP_sm.decls.2 ⟨1, qB, qF, [], [], [], [], qSig, qEx, 0⟩ (by simp [qP])).formals.2 f hf) [qx] rfl (by intro u hu; simp at hu; subst hu; exact qx_sm)
  rw [q1] at c1; rw [q2] at c2; rw [q5] at c3; rw [q6] at c4; rw [q7] at c5; rw [q8] at c8; rw [q3] at c9
  rw [show isIface qP [] qy = true by decide +kernel] at c6
  rw [show isIface qP [] qx = false by decide +kernel] at c7
  have t4 := ok_told (some 3) 3
  have t5 := ok_told (some 8) 8
  simp only [errD, decide_true, Option.isSome_some] at c3 c4 c5 c8 t4 t5
  (refine CallOK.of_body Tryz.func28 rfl (by decide) (by rw [Tryz.ntmps28]; simp) ?_; rw [Tryz.ntmps28])
  (refine AWp.seqR [0, 1, 2, 3, 4, 5] [] (by decide +kernel) fun K hK => ?_; simp -implicitDefEqProofs only [EV, reduceCtorEq, ]; refine hK _ _ ?_; clear hK K)
  (refine AWp.seqR [0, 1, 2, 3, 4, 5] [] (by decide +kernel) fun K hK => ?_; simp -implicitDefEqProofs only [EV, Nat.reduceAdd, Nat.reduceEqDiff, Nat.reduceLeDiff, Nat.reduceMul, reduceCtorEq, TF22, TF25, TF30, TF46, TF80, TF84]; refine hK _ _ ?_; clear hK K)
  (refine AWp.seqR [0, 1, 2, 3, 4, 5] [] (by decide +kernel) fun K hK => ?_; simp -implicitDefEqProofs only [EV, Nat.reduceAdd, Nat.reduceEqDiff, reduceCtorEq, TF30, ]; refine ⟨_, .inl ⟨_, rfl, ok_New qP qP_sm, rfl⟩, ?_⟩; (try simp -implicitDefEqProofs only [EV, forall_const, implies_true, Nat.reduceAdd, Nat.reduceEqDiff, Nat.reduceBEq, Nat.reduceLeDiff, Nat.reduceSub, Nat.reduceMul, Int.reduceEq, Int.reduceLT, Int.reduceLE, Int.reduceSub, Int.reduceAdd, Int.reduceToNat, reduceCtorEq, Int.reduceNeg, TF3, TF4, TF9, TF22, TF23, TF25, TF30, TF46, TF80, TF84]); refine hK _ _ ?_; clear hK K)
  (refine AWp.seqR [0, 1, 2, 3, 4, 5] [] (by decide +kernel) fun K hK => ?_; simp -implicitDefEqProofs only [EV, Nat.reduceAdd, Nat.reduceEqDiff, Nat.reduceBEq, Nat.reduceLeDiff, reduceCtorEq, TF25, ]; refine hK _ _ ?_; clear hK K)
  (refine AWp.seqR [0, 1, 2, 3, 4, 5] [] (by decide +kernel) fun K hK => ?_; simp -implicitDefEqProofs only [EV, Nat.reduceAdd, Nat.reduceEqDiff, Nat.reduceBEq, Nat.reduceLeDiff, reduceCtorEq, TF25, ]; refine hK _ _ ?_; clear hK K)
  (refine AWp.seqR [0, 1, 2, 3, 4, 5] [] (by decide +kernel) fun K hK => ?_; simp -implicitDefEqProofs only [EV, Nat.reduceAdd, Nat.reduceEqDiff, Nat.reduceBEq, Nat.reduceLeDiff, Nat.reduceMul, reduceCtorEq, TF23, TF25, ]; refine hK _ _ ?_; clear hK K)
  (refine AWp.seqD [0, 1, 2, 3, 4, 5] [] 61 mixed (by decide +kernel) (by decide +kernel) fun K hK => ?_; simp -implicitDefEqProofs only [EV, Nat.reduceAdd, Nat.reduceEqDiff, reduceCtorEq, Int.reduceNeg, TF25, ]; refine ⟨_, .inl ⟨_, rfl, c1, rfl⟩, ?_⟩; (try simp -implicitDefEqProofs only [EV, Nat.reduceAdd, Nat.reduceEqDiff, reduceCtorEq, Int.reduceNeg, TF25, ]); refine ⟨_, .inl ⟨_, rfl, c2, rfl⟩, ?_⟩; (try simp -implicitDefEqProofs only [EV, Nat.reduceAdd, Nat.reduceEqDiff, reduceCtorEq, Int.reduceNeg, TF25, ]); refine ⟨_, .inl ⟨_, rfl, c3, rfl⟩, ?_⟩; (try simp -implicitDefEqProofs only [EV, Nat.reduceAdd, Nat.reduceEqDiff, Nat.reduceLeDiff, reduceCtorEq, Int.reduceNeg, TF25, TF65]); refine ⟨_, .inl ⟨_, rfl, c4, rfl⟩, ?_⟩; (try simp -implicitDefEqProofs only [EV, Int.reduceNeg, ]); refine ⟨_, .inl ⟨_, rfl, t4, rfl⟩, ?_⟩; (try simp -implicitDefEqProofs only [EV, Nat.reduceAdd, Nat.reduceEqDiff, reduceCtorEq, Int.reduceNeg, TF25, ]); refine ⟨_, .inl ⟨_, rfl, c5, rfl⟩, ?_⟩; (try simp -implicitDefEqProofs only [EV, Int.reduceNeg, ]); refine ⟨_, .inl ⟨_, rfl, t5, rfl⟩, ?_⟩; (try simp -implicitDefEqProofs only [EV, Nat.reduceAdd, Nat.reduceEqDiff, reduceCtorEq, Int.reduceNeg, TF25, ]); refine ⟨_, .inl ⟨_, rfl, c6, rfl⟩, ?_⟩; (try simp -implicitDefEqProofs only [EV, Nat.reduceAdd, Nat.reduceEqDiff, reduceCtorEq, Int.reduceNeg, TF25, ]); refine ⟨_, .inl ⟨_, rfl, c7, rfl⟩, ?_⟩; (try simp -implicitDefEqProofs only [EV, Nat.reduceAdd, Nat.reduceEqDiff, Nat.reduceLeDiff, Nat.reduceMul, reduceCtorEq, Int.reduceNeg, TF23, TF25, ]); refine ⟨_, .inl ⟨_, rfl, c8, rfl⟩, ?_⟩; (try simp -implicitDefEqProofs only [EV, Int.reduceNeg, ]); refine ⟨_, .inl ⟨_, rfl, t5, rfl⟩, ?_⟩; (try simp -implicitDefEqProofs only [EV, Nat.reduceEqDiff, Int.reduceLE, Int.reduceToNat, reduceCtorEq, Int.reduceNeg, TF22, TF30, TF46, TF80, ]); refine ⟨_, rfl, rfl, ?_⟩; (try simp -implicitDefEqProofs only [EV, Nat.reduceAdd, Nat.reduceEqDiff, Nat.reduceLeDiff, Nat.reduceMul, reduceCtorEq, Int.reduceNeg, TF23, TF25, ]); refine ⟨_, .inl ⟨_, rfl, c9, rfl⟩, ?_⟩; (try simp -implicitDefEqProofs only [EV, Nat.reduceEqDiff, reduceCtorEq, Int.reduceNeg, ]); refine hK _ _ ?_; clear hK K)
  exact AWp.ret ⟨_, by rw [Tryz.results28]; rfl, rfl⟩
end Go.Abs
