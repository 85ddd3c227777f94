/- the walks of ImplBounds, ImplChecks and ImplLaws, given that awake answers true -/
import Derived.Test.YtenheogknlmohaaGreatDoorZS29
import Derived.Test.YtenheogknlmohaaGreatDoorZP13
namespace Go.Abs
set_option linter.unusedSimpArgs false
set_option linter.unusedVariables false
open Go Go.Proofs
set_option maxRecDepth 100000
set_option maxHeartbeats 1000000

theorem ok_BoundsN (p : Prog) (env fs : List Formal) (args : List Ty) (hal : args.length ≠ fs.length) :
    CallOK Tryz.prog 42 [.dptr (tabC p) 0, .d (.slice (foR env)), .d (.slice (foR fs)), tysV args] (intV 0) := by
  have hal' : ¬ (fs.length : Int) = (args.length : Int) := by omega
  (refine CallOK.of_body Tryz.func42 rfl (by decide) (by rw [Tryz.ntmps42]; simp) ?_; rw [Tryz.ntmps42])
  (refine AWp.seqR [0, 1, 2, 3, 8, 9, 10, 15, 16, 17, 18, 19, 36] [] (by decide +kernel) fun K hK => ?_; simp -implicitDefEqProofs only [EV, Nat.reduceAdd, Nat.reduceEqDiff, reduceCtorEq, ]; refine hK _ _ ?_; clear hK K)
  refine AWp.seqK fun K1 hK1 => ?_
  (refine AWp.seqR [0, 1, 2, 3, 8, 9, 10, 15, 16, 17, 18, 19, 36] [] (by decide +kernel) fun K hK => ?_; simp -implicitDefEqProofs only [EV, Nat.reduceEqDiff, reduceCtorEq, TF23, TF46, hal']; refine hK _ _ ?_; clear hK K)
  refine AWp.takeIfK rfl ?_
  (refine AWp.seqR [0, 1, 2, 3, 8, 9, 10, 15, 16, 17, 18, 19, 36] [] (by decide +kernel) fun K hK => ?_; simp -implicitDefEqProofs only [EV, Nat.reduceEqDiff, reduceCtorEq, ]; refine hK _ _ ?_; clear hK K)
  exact AWp.ret ⟨_, by rw [Tryz.results42]; rfl, rfl⟩

theorem law13_laws (haw : CallOK Tryz.prog 28 [] (boolV true)) (p : Prog) (env : List Formal) (x y z : Ty) : CallOK Tryz.prog 8 [prV p, .d (.slice (foR env)), tyV x, tyV y, tyV z] (boolV true) := by
  have hf := ok_few13 p env x y
  have hz := ok_Few04 z
  cases hb : fewB p env x y with
  | false =>
    rw [hb] at hf
    (refine CallOK.of_body Tryz.func8 rfl (by decide) (by rw [Tryz.ntmps8]; simp) ?_; rw [Tryz.ntmps8])
    (refine AWp.seqR [0, 1, 2, 3, 4, 5, 7, 8, 9, 10, 11, 26, 35] [] (by decide +kernel) fun K hK => ?_; simp -implicitDefEqProofs only [EV, Nat.reduceAdd, Nat.reduceEqDiff, Nat.reduceBEq, Nat.reduceLeDiff, reduceCtorEq, ]; refine hK _ _ ?_; clear hK K)
    refine AWp.seqK fun K1 hK1 => ?_
    (refine AWp.seqR [0, 1, 2, 3, 4, 5, 7, 8, 9, 10, 11, 26, 35] [] (by decide +kernel) fun K hK => ?_; simp -implicitDefEqProofs only [EV, Nat.reduceAdd, Nat.reduceEqDiff, reduceCtorEq, ]; refine ⟨_, .inl ⟨_, rfl, haw, rfl⟩, ?_⟩; (try simp -implicitDefEqProofs only [EV, Nat.reduceAdd, Nat.reduceEqDiff, reduceCtorEq, TF25, TF30]); refine ⟨_, .inl ⟨_, rfl, hf, rfl⟩, ?_⟩; (try simp -implicitDefEqProofs only [EV, Nat.reduceEqDiff, reduceCtorEq, ]); refine hK _ _ ?_; clear hK K)
    refine AWp.takeIfK rfl ?_
    (refine AWp.seqR [0, 1, 2, 3, 4, 5, 7, 8, 9, 10, 11, 26, 35] [] (by decide +kernel) fun K hK => ?_; simp -implicitDefEqProofs only [EV, Nat.reduceAdd, Nat.reduceEqDiff, reduceCtorEq, ]; refine ⟨_, .inl ⟨_, rfl, haw, rfl⟩, ?_⟩; (try simp -implicitDefEqProofs only [EV, ]); refine hK _ _ ?_; clear hK K)
    exact AWp.ret ⟨_, by rw [Tryz.results8]; rfl, rfl⟩
  | true =>
    rw [hb] at hf
    by_cases hz2 : z.count 0 ≤ 200
    · rw [decide_eq_true hz2] at hz
      obtain ⟨hp, hel, he, hx, hy⟩ := fewB_sm hb
      have hzs : z.Sm := Ty.count_sm z 0 (by decide) (by omega)
      have c1 := ok_Implements p hp env hel he x x hx hx
      have c2 := ok_Implements p hp env hel he x y hx hy
      have c3 := ok_Implements p hp env hel he y z hy hzs
      have c4 := ok_Implements p hp env hel he x z hx hzs
      rw [implB_refl] at c1
      have ht := @implB_trans p env x y z
      (refine CallOK.of_body Tryz.func8 rfl (by decide) (by rw [Tryz.ntmps8]; simp) ?_; rw [Tryz.ntmps8])
      (refine AWp.seqR [0, 1, 2, 3, 4, 5, 7, 8, 9, 10, 11, 26, 35] [] (by decide +kernel) fun K hK => ?_; simp -implicitDefEqProofs only [EV, Nat.reduceAdd, Nat.reduceEqDiff, Nat.reduceBEq, Nat.reduceLeDiff, reduceCtorEq, ]; refine hK _ _ ?_; clear hK K)
      refine AWp.seqK fun K1 hK1 => ?_
      (refine AWp.seqR [0, 1, 2, 3, 4, 5, 7, 8, 9, 10, 11, 26, 35] [] (by decide +kernel) fun K hK => ?_; simp -implicitDefEqProofs only [EV, Nat.reduceAdd, Nat.reduceEqDiff, reduceCtorEq, ]; refine ⟨_, .inl ⟨_, rfl, haw, rfl⟩, ?_⟩; (try simp -implicitDefEqProofs only [EV, Nat.reduceAdd, Nat.reduceEqDiff, reduceCtorEq, TF25, TF30]); refine ⟨_, .inl ⟨_, rfl, hf, rfl⟩, ?_⟩; (try simp -implicitDefEqProofs only [EV, Nat.reduceAdd, Nat.reduceEqDiff, reduceCtorEq, TF25]); refine ⟨_, .inl ⟨_, rfl, hz, rfl⟩, ?_⟩; (try simp -implicitDefEqProofs only [EV, Nat.reduceEqDiff, reduceCtorEq, ]); refine hK _ _ ?_; clear hK K)
      refine AWp.skipIfK rfl hK1 ?_
      clear hK1 K1
      (refine AWp.seqR [0, 1, 2, 3, 4, 5, 7, 8, 9, 10, 11, 26, 35] [] (by decide +kernel) fun K hK => ?_; simp -implicitDefEqProofs only [EV, Nat.reduceAdd, Nat.reduceEqDiff, reduceCtorEq, TF30]; refine ⟨_, .inl ⟨_, rfl, ok_New p hp, rfl⟩, ?_⟩; (try simp -implicitDefEqProofs only [EV, forall_const, implies_true, Nat.reduceAdd, Nat.reduceEqDiff, Nat.reduceBEq, Nat.reduceLeDiff, Nat.reduceSub, Nat.reduceMul, Int.reduceEq, Int.reduceLT, Int.reduceLE, Int.reduceSub, Int.reduceAdd, Int.reduceToNat, reduceCtorEq, Int.reduceNeg, TF3, TF4, TF9, TF25, TF30]); refine hK _ _ ?_; clear hK K)
      refine AWp.seqK fun K1 hK1 => ?_
      (refine AWp.seqR [0, 1, 2, 3, 4, 5, 7, 8, 9, 10, 11, 26, 35] [] (by decide +kernel) fun K hK => ?_; simp -implicitDefEqProofs only [EV, Nat.reduceAdd, Nat.reduceEqDiff, reduceCtorEq, TF25]; refine ⟨_, .inl ⟨_, rfl, c1, rfl⟩, ?_⟩; (try simp -implicitDefEqProofs only [EV, Nat.reduceEqDiff, reduceCtorEq, ]); refine hK _ _ ?_; clear hK K)
      refine AWp.skipIfK rfl hK1 ?_
      clear hK1 K1
      cases h1 : implB p env x y with
      | false =>
        rw [h1] at c2
        (refine AWp.seqR [0, 1, 2, 3, 4, 5, 7, 8, 9, 10, 11, 26, 35] [] (by decide +kernel) fun K hK => ?_; simp -implicitDefEqProofs only [EV, Nat.reduceAdd, Nat.reduceEqDiff, reduceCtorEq, TF25]; refine ⟨_, .inl ⟨_, rfl, c2, rfl⟩, ?_⟩; (try simp -implicitDefEqProofs only [EV, Nat.reduceEqDiff, reduceCtorEq, ]); refine hK _ _ ?_; clear hK K)
        exact AWp.ret ⟨_, by rw [Tryz.results8]; rfl, rfl⟩
      | true =>
        rw [h1] at c2
        cases h2 : implB p env y z with
        | false =>
          rw [h2] at c3
          (refine AWp.seqR [0, 1, 2, 3, 4, 5, 7, 8, 9, 10, 11, 26, 35] [] (by decide +kernel) fun K hK => ?_; simp -implicitDefEqProofs only [EV, Nat.reduceAdd, Nat.reduceEqDiff, reduceCtorEq, TF25]; refine ⟨_, .inl ⟨_, rfl, c2, rfl⟩, ?_⟩; (try simp -implicitDefEqProofs only [EV, Nat.reduceAdd, Nat.reduceEqDiff, reduceCtorEq, TF25]); refine ⟨_, .inl ⟨_, rfl, c3, rfl⟩, ?_⟩; (try simp -implicitDefEqProofs only [EV, Nat.reduceEqDiff, reduceCtorEq, ]); refine hK _ _ ?_; clear hK K)
          exact AWp.ret ⟨_, by rw [Tryz.results8]; rfl, rfl⟩
        | true =>
          rw [h2] at c3
          rw [ht h1 h2] at c4
          (refine AWp.seqR [0, 1, 2, 3, 4, 5, 7, 8, 9, 10, 11, 26, 35] [] (by decide +kernel) fun K hK => ?_; simp -implicitDefEqProofs only [EV, Nat.reduceAdd, Nat.reduceEqDiff, reduceCtorEq, TF25]; refine ⟨_, .inl ⟨_, rfl, c2, rfl⟩, ?_⟩; (try simp -implicitDefEqProofs only [EV, Nat.reduceAdd, Nat.reduceEqDiff, reduceCtorEq, TF25]); refine ⟨_, .inl ⟨_, rfl, c3, rfl⟩, ?_⟩; (try simp -implicitDefEqProofs only [EV, Nat.reduceAdd, Nat.reduceEqDiff, reduceCtorEq, TF25]); refine ⟨_, .inl ⟨_, rfl, c4, rfl⟩, ?_⟩; (try simp -implicitDefEqProofs only [EV, ]); refine hK _ _ ?_; clear hK K)
          exact AWp.ret ⟨_, by rw [Tryz.results8]; rfl, rfl⟩
    · rw [decide_eq_false hz2] at hz
      (refine CallOK.of_body Tryz.func8 rfl (by decide) (by rw [Tryz.ntmps8]; simp) ?_; rw [Tryz.ntmps8])
      (refine AWp.seqR [0, 1, 2, 3, 4, 5, 7, 8, 9, 10, 11, 26, 35] [] (by decide +kernel) fun K hK => ?_; simp -implicitDefEqProofs only [EV, Nat.reduceAdd, Nat.reduceEqDiff, Nat.reduceBEq, Nat.reduceLeDiff, reduceCtorEq, ]; refine hK _ _ ?_; clear hK K)
      refine AWp.seqK fun K1 hK1 => ?_
      (refine AWp.seqR [0, 1, 2, 3, 4, 5, 7, 8, 9, 10, 11, 26, 35] [] (by decide +kernel) fun K hK => ?_; simp -implicitDefEqProofs only [EV, Nat.reduceAdd, Nat.reduceEqDiff, reduceCtorEq, ]; refine ⟨_, .inl ⟨_, rfl, haw, rfl⟩, ?_⟩; (try simp -implicitDefEqProofs only [EV, Nat.reduceAdd, Nat.reduceEqDiff, reduceCtorEq, TF25, TF30]); refine ⟨_, .inl ⟨_, rfl, hf, rfl⟩, ?_⟩; (try simp -implicitDefEqProofs only [EV, Nat.reduceAdd, Nat.reduceEqDiff, reduceCtorEq, TF25]); refine ⟨_, .inl ⟨_, rfl, hz, rfl⟩, ?_⟩; (try simp -implicitDefEqProofs only [EV, Nat.reduceEqDiff, reduceCtorEq, ]); refine hK _ _ ?_; clear hK K)
      refine AWp.takeIfK rfl ?_
      (refine AWp.seqR [0, 1, 2, 3, 4, 5, 7, 8, 9, 10, 11, 26, 35] [] (by decide +kernel) fun K hK => ?_; simp -implicitDefEqProofs only [EV, Nat.reduceAdd, Nat.reduceEqDiff, reduceCtorEq, ]; refine ⟨_, .inl ⟨_, rfl, haw, rfl⟩, ?_⟩; (try simp -implicitDefEqProofs only [EV, ]); refine hK _ _ ?_; clear hK K)
      exact AWp.ret ⟨_, by rw [Tryz.results8]; rfl, rfl⟩

theorem law13_bounds (haw : CallOK Tryz.prog 28 [] (boolV true)) (p : Prog) (env fs : List Formal) (args : List Ty) : CallOK Tryz.prog 9 [prV p, .d (.slice (foR env)), .d (.slice (foR fs)), tysV args] (boolV true) := by
  have h1 := ok_Few06 p
  have h2 := ok_FewEnv env
  have h3 := ok_FewEnv fs
  have h4 := ok_FewAll args
  by_cases hh : p.count ≤ 600 ∧ (envProg env).count ≤ 600 ∧ (envProg fs).count ≤ 600 ∧ Ty.countL args 0 ≤ 200
  · obtain ⟨g1, g2, g3, g4⟩ := hh
    rw [decide_eq_true g1] at h1
    rw [decide_eq_true g2] at h2
    rw [decide_eq_true g3] at h3
    rw [decide_eq_true g4] at h4
    have hp : p.Sm := (Prog.count_sm p g1).1
    obtain ⟨hel, he⟩ := env_few g2
    obtain ⟨hfl, hfs⟩ := env_few g3
    have ha := (Ty.countL_sm args 0 (by decide) (by omega)).2
    by_cases hal : args.length = fs.length
    · have c1 := ok_Bounds p hp env hel he fs hfl hfs args hal ha
      have c2 := ok_RBounds p hp env hel he fs hfl hfs args hal ha
      have hal' : (fs.length : Int) = (args.length : Int) := by omega
      generalize boundsI p env fs args = b at *
      (refine CallOK.of_body Tryz.func9 rfl (by decide) (by rw [Tryz.ntmps9]; simp) ?_; rw [Tryz.ntmps9])
      (refine AWp.seqR [0, 1, 2, 3, 4, 8, 9, 31, 43] [] (by decide +kernel) fun K hK => ?_; simp -implicitDefEqProofs only [EV, Nat.reduceAdd, Nat.reduceEqDiff, Nat.reduceLeDiff, reduceCtorEq, ]; refine hK _ _ ?_; clear hK K)
      refine AWp.seqK fun K1 hK1 => ?_
      (refine AWp.seqR [0, 1, 2, 3, 4, 8, 9, 31, 43] [] (by decide +kernel) fun K hK => ?_; simp -implicitDefEqProofs only [EV, Nat.reduceAdd, Nat.reduceEqDiff, reduceCtorEq, ]; refine ⟨_, .inl ⟨_, rfl, haw, rfl⟩, ?_⟩; (try simp -implicitDefEqProofs only [EV, Nat.reduceAdd, Nat.reduceEqDiff, reduceCtorEq, TF30]); refine ⟨_, .inl ⟨_, rfl, h1, rfl⟩, ?_⟩; (try simp -implicitDefEqProofs only [EV, Nat.reduceAdd, Nat.reduceEqDiff, reduceCtorEq, ]); refine ⟨_, .inl ⟨_, rfl, h2, rfl⟩, ?_⟩; (try simp -implicitDefEqProofs only [EV, Nat.reduceAdd, Nat.reduceEqDiff, reduceCtorEq, ]); refine ⟨_, .inl ⟨_, rfl, h3, rfl⟩, ?_⟩; (try simp -implicitDefEqProofs only [EV, Nat.reduceAdd, Nat.reduceEqDiff, reduceCtorEq, ]); refine ⟨_, .inl ⟨_, rfl, h4, rfl⟩, ?_⟩; (try simp -implicitDefEqProofs only [EV, Nat.reduceEqDiff, reduceCtorEq, ]); refine hK _ _ ?_; clear hK K)
      refine AWp.skipIfK rfl hK1 ?_
      clear hK1 K1
      (refine AWp.seqR [0, 1, 2, 3, 4, 8, 9, 31, 43] [] (by decide +kernel) fun K hK => ?_; simp -implicitDefEqProofs only [EV, Nat.reduceAdd, Nat.reduceEqDiff, reduceCtorEq, TF30]; refine ⟨_, .inl ⟨_, rfl, ok_New p hp, rfl⟩, ?_⟩; (try simp -implicitDefEqProofs only [EV, Nat.reduceEqDiff, reduceCtorEq, ]); refine ⟨_, .inl ⟨_, rfl, c1, rfl⟩, ?_⟩; (try simp -implicitDefEqProofs only [EV, ]); refine hK _ _ ?_; clear hK K)
      refine AWp.seqK fun K1 hK1 => ?_
      (refine AWp.seqR [0, 1, 2, 3, 4, 8, 9, 31, 43] [] (by decide +kernel) fun K hK => ?_; simp -implicitDefEqProofs only [EV, Nat.reduceEqDiff, reduceCtorEq, hal', TF46, TF23]; refine hK _ _ ?_; clear hK K)
      refine AWp.skipIfK rfl hK1 ?_
      clear hK1 K1
      (refine AWp.seqR [0, 1, 2, 3, 4, 8, 9, 31, 43] [] (by decide +kernel) fun K hK => ?_; simp -implicitDefEqProofs only [EV, Nat.reduceAdd, Nat.reduceEqDiff, reduceCtorEq, TF30]; refine ⟨_, .inl ⟨_, rfl, c2, rfl⟩, ?_⟩; (try simp -implicitDefEqProofs only [EV, Nat.reduceEqDiff, reduceCtorEq, ]); refine hK _ _ ?_; clear hK K)
      exact AWp.ret ⟨_, by rw [Tryz.results9]; rfl, rfl⟩
    · have c1 := ok_BoundsN p env fs args hal
      have hal' : ¬ (fs.length : Int) = (args.length : Int) := by omega
      (refine CallOK.of_body Tryz.func9 rfl (by decide) (by rw [Tryz.ntmps9]; simp) ?_; rw [Tryz.ntmps9])
      (refine AWp.seqR [0, 1, 2, 3, 4, 8, 9, 31, 43] [] (by decide +kernel) fun K hK => ?_; simp -implicitDefEqProofs only [EV, Nat.reduceAdd, Nat.reduceEqDiff, Nat.reduceLeDiff, reduceCtorEq, ]; refine hK _ _ ?_; clear hK K)
      refine AWp.seqK fun K1 hK1 => ?_
      (refine AWp.seqR [0, 1, 2, 3, 4, 8, 9, 31, 43] [] (by decide +kernel) fun K hK => ?_; simp -implicitDefEqProofs only [EV, Nat.reduceAdd, Nat.reduceEqDiff, reduceCtorEq, ]; refine ⟨_, .inl ⟨_, rfl, haw, rfl⟩, ?_⟩; (try simp -implicitDefEqProofs only [EV, Nat.reduceAdd, Nat.reduceEqDiff, reduceCtorEq, TF30]); refine ⟨_, .inl ⟨_, rfl, h1, rfl⟩, ?_⟩; (try simp -implicitDefEqProofs only [EV, Nat.reduceAdd, Nat.reduceEqDiff, reduceCtorEq, ]); refine ⟨_, .inl ⟨_, rfl, h2, rfl⟩, ?_⟩; (try simp -implicitDefEqProofs only [EV, Nat.reduceAdd, Nat.reduceEqDiff, reduceCtorEq, ]); refine ⟨_, .inl ⟨_, rfl, h3, rfl⟩, ?_⟩; (try simp -implicitDefEqProofs only [EV, Nat.reduceAdd, Nat.reduceEqDiff, reduceCtorEq, ]); refine ⟨_, .inl ⟨_, rfl, h4, rfl⟩, ?_⟩; (try simp -implicitDefEqProofs only [EV, Nat.reduceEqDiff, reduceCtorEq, ]); refine hK _ _ ?_; clear hK K)
      refine AWp.skipIfK rfl hK1 ?_
      clear hK1 K1
      (refine AWp.seqR [0, 1, 2, 3, 4, 8, 9, 31, 43] [] (by decide +kernel) fun K hK => ?_; simp -implicitDefEqProofs only [EV, Nat.reduceAdd, Nat.reduceEqDiff, reduceCtorEq, TF30]; refine ⟨_, .inl ⟨_, rfl, ok_New p hp, rfl⟩, ?_⟩; (try simp -implicitDefEqProofs only [EV, Nat.reduceEqDiff, reduceCtorEq, ]); refine ⟨_, .inl ⟨_, rfl, c1, rfl⟩, ?_⟩; (try simp -implicitDefEqProofs only [EV, ]); refine hK _ _ ?_; clear hK K)
      refine AWp.seqK fun K1 hK1 => ?_
      (refine AWp.seqR [0, 1, 2, 3, 4, 8, 9, 31, 43] [] (by decide +kernel) fun K hK => ?_; simp -implicitDefEqProofs only [EV, Nat.reduceEqDiff, reduceCtorEq, hal', TF46, TF23]; refine hK _ _ ?_; clear hK K)
      refine AWp.takeIfK rfl ?_
      (refine AWp.seqR [0, 1, 2, 3, 4, 8, 9, 31, 43] [] (by decide +kernel) fun K hK => ?_; simp -implicitDefEqProofs only [EV, Nat.reduceEqDiff, reduceCtorEq, ]; refine hK _ _ ?_; clear hK K)
      exact AWp.ret ⟨_, by rw [Tryz.results9]; rfl, rfl⟩
  · have hcase : decide (p.count ≤ 600) = false ∨ (decide (p.count ≤ 600) = true ∧ decide ((envProg env).count ≤ 600) = false) ∨ (decide (p.count ≤ 600) = true ∧ decide ((envProg env).count ≤ 600) = true ∧ decide ((envProg fs).count ≤ 600) = false) ∨ (decide (p.count ≤ 600) = true ∧ decide ((envProg env).count ≤ 600) = true ∧ decide ((envProg fs).count ≤ 600) = true ∧ decide (Ty.countL args 0 ≤ 200) = false) := by
      simp only [decide_eq_true_eq, decide_eq_false_iff_not]
      omega
    (refine CallOK.of_body Tryz.func9 rfl (by decide) (by rw [Tryz.ntmps9]; simp) ?_; rw [Tryz.ntmps9])
    (refine AWp.seqR [0, 1, 2, 3, 4, 8, 9, 31, 43] [] (by decide +kernel) fun K hK => ?_; simp -implicitDefEqProofs only [EV, Nat.reduceAdd, Nat.reduceEqDiff, Nat.reduceLeDiff, reduceCtorEq, ]; refine hK _ _ ?_; clear hK K)
    refine AWp.seqK fun K1 hK1 => ?_
    rcases hcase with g | ⟨g, g'⟩ | ⟨g, g', g''⟩ | ⟨g, g', g'', g3⟩
    · rw [g] at h1
      (refine AWp.seqR [0, 1, 2, 3, 4, 8, 9, 31, 43] [] (by decide +kernel) fun K hK => ?_; simp -implicitDefEqProofs only [EV, Nat.reduceAdd, Nat.reduceEqDiff, reduceCtorEq, ]; refine ⟨_, .inl ⟨_, rfl, haw, rfl⟩, ?_⟩; (try simp -implicitDefEqProofs only [EV, Nat.reduceAdd, Nat.reduceEqDiff, reduceCtorEq, TF30]); refine ⟨_, .inl ⟨_, rfl, h1, rfl⟩, ?_⟩; (try simp -implicitDefEqProofs only [EV, Nat.reduceEqDiff, reduceCtorEq, ]); refine hK _ _ ?_; clear hK K)
      refine AWp.takeIfK rfl ?_
      (refine AWp.seqR [0, 1, 2, 3, 4, 8, 9, 31, 43] [] (by decide +kernel) fun K hK => ?_; simp -implicitDefEqProofs only [EV, Nat.reduceAdd, Nat.reduceEqDiff, reduceCtorEq, ]; refine ⟨_, .inl ⟨_, rfl, haw, rfl⟩, ?_⟩; (try simp -implicitDefEqProofs only [EV, ]); refine hK _ _ ?_; clear hK K)
      exact AWp.ret ⟨_, by rw [Tryz.results9]; rfl, rfl⟩
    · rw [g] at h1; rw [g'] at h2
      (refine AWp.seqR [0, 1, 2, 3, 4, 8, 9, 31, 43] [] (by decide +kernel) fun K hK => ?_; simp -implicitDefEqProofs only [EV, Nat.reduceAdd, Nat.reduceEqDiff, reduceCtorEq, ]; refine ⟨_, .inl ⟨_, rfl, haw, rfl⟩, ?_⟩; (try simp -implicitDefEqProofs only [EV, Nat.reduceAdd, Nat.reduceEqDiff, reduceCtorEq, TF30]); refine ⟨_, .inl ⟨_, rfl, h1, rfl⟩, ?_⟩; (try simp -implicitDefEqProofs only [EV, Nat.reduceAdd, Nat.reduceEqDiff, reduceCtorEq, ]); refine ⟨_, .inl ⟨_, rfl, h2, rfl⟩, ?_⟩; (try simp -implicitDefEqProofs only [EV, Nat.reduceEqDiff, reduceCtorEq, ]); refine hK _ _ ?_; clear hK K)
      refine AWp.takeIfK rfl ?_
      (refine AWp.seqR [0, 1, 2, 3, 4, 8, 9, 31, 43] [] (by decide +kernel) fun K hK => ?_; simp -implicitDefEqProofs only [EV, Nat.reduceAdd, Nat.reduceEqDiff, reduceCtorEq, ]; refine ⟨_, .inl ⟨_, rfl, haw, rfl⟩, ?_⟩; (try simp -implicitDefEqProofs only [EV, ]); refine hK _ _ ?_; clear hK K)
      exact AWp.ret ⟨_, by rw [Tryz.results9]; rfl, rfl⟩
    · rw [g] at h1; rw [g'] at h2; rw [g''] at h3
      (refine AWp.seqR [0, 1, 2, 3, 4, 8, 9, 31, 43] [] (by decide +kernel) fun K hK => ?_; simp -implicitDefEqProofs only [EV, Nat.reduceAdd, Nat.reduceEqDiff, reduceCtorEq, ]; refine ⟨_, .inl ⟨_, rfl, haw, rfl⟩, ?_⟩; (try simp -implicitDefEqProofs only [EV, Nat.reduceAdd, Nat.reduceEqDiff, reduceCtorEq, TF30]); refine ⟨_, .inl ⟨_, rfl, h1, rfl⟩, ?_⟩; (try simp -implicitDefEqProofs only [EV, Nat.reduceAdd, Nat.reduceEqDiff, reduceCtorEq, ]); refine ⟨_, .inl ⟨_, rfl, h2, rfl⟩, ?_⟩; (try simp -implicitDefEqProofs only [EV, Nat.reduceAdd, Nat.reduceEqDiff, reduceCtorEq, ]); refine ⟨_, .inl ⟨_, rfl, h3, rfl⟩, ?_⟩; (try simp -implicitDefEqProofs only [EV, Nat.reduceEqDiff, reduceCtorEq, ]); refine hK _ _ ?_; clear hK K)
      refine AWp.takeIfK rfl ?_
      (refine AWp.seqR [0, 1, 2, 3, 4, 8, 9, 31, 43] [] (by decide +kernel) fun K hK => ?_; simp -implicitDefEqProofs only [EV, Nat.reduceAdd, Nat.reduceEqDiff, reduceCtorEq, ]; refine ⟨_, .inl ⟨_, rfl, haw, rfl⟩, ?_⟩; (try simp -implicitDefEqProofs only [EV, ]); refine hK _ _ ?_; clear hK K)
      exact AWp.ret ⟨_, by rw [Tryz.results9]; rfl, rfl⟩
    · rw [g] at h1; rw [g'] at h2; rw [g''] at h3; rw [g3] at h4
      (refine AWp.seqR [0, 1, 2, 3, 4, 8, 9, 31, 43] [] (by decide +kernel) fun K hK => ?_; simp -implicitDefEqProofs only [EV, Nat.reduceAdd, Nat.reduceEqDiff, reduceCtorEq, ]; refine ⟨_, .inl ⟨_, rfl, haw, rfl⟩, ?_⟩; (try simp -implicitDefEqProofs only [EV, Nat.reduceAdd, Nat.reduceEqDiff, reduceCtorEq, TF30]); refine ⟨_, .inl ⟨_, rfl, h1, rfl⟩, ?_⟩; (try simp -implicitDefEqProofs only [EV, Nat.reduceAdd, Nat.reduceEqDiff, reduceCtorEq, ]); refine ⟨_, .inl ⟨_, rfl, h2, rfl⟩, ?_⟩; (try simp -implicitDefEqProofs only [EV, Nat.reduceAdd, Nat.reduceEqDiff, reduceCtorEq, ]); refine ⟨_, .inl ⟨_, rfl, h3, rfl⟩, ?_⟩; (try simp -implicitDefEqProofs only [EV, Nat.reduceAdd, Nat.reduceEqDiff, reduceCtorEq, ]); refine ⟨_, .inl ⟨_, rfl, h4, rfl⟩, ?_⟩; (try simp -implicitDefEqProofs only [EV, Nat.reduceEqDiff, reduceCtorEq, ]); refine hK _ _ ?_; clear hK K)
      refine AWp.takeIfK rfl ?_
      (refine AWp.seqR [0, 1, 2, 3, 4, 8, 9, 31, 43] [] (by decide +kernel) fun K hK => ?_; simp -implicitDefEqProofs only [EV, Nat.reduceAdd, Nat.reduceEqDiff, reduceCtorEq, ]; refine ⟨_, .inl ⟨_, rfl, haw, rfl⟩, ?_⟩; (try simp -implicitDefEqProofs only [EV, ]); refine hK _ _ ?_; clear hK K)
      exact AWp.ret ⟨_, by rw [Tryz.results9]; rfl, rfl⟩

theorem law13_checks (haw : CallOK Tryz.prog 28 [] (boolV true)) (p : Prog) (env : List Formal) (t i : Ty) : CallOK Tryz.prog 7 [prV p, .d (.slice (foR env)), tyV t, tyV i] (boolV true) := by
  have hf := ok_few13 p env t i
  cases hb : fewB p env t i with
  | false =>
    rw [hb] at hf
    (refine CallOK.of_body Tryz.func7 rfl (by decide) (by rw [Tryz.ntmps7]; simp) ?_; rw [Tryz.ntmps7])
    (refine AWp.seqR [0, 1, 2, 3, 4, 6, 7, 8, 9, 10, 11, 21, 39, 41] [] (by decide +kernel) fun K hK => ?_; simp -implicitDefEqProofs only [EV, Nat.reduceAdd, Nat.reduceEqDiff, Nat.reduceBEq, Nat.reduceLeDiff, reduceCtorEq, ]; refine hK _ _ ?_; clear hK K)
    refine AWp.seqK fun K1 hK1 => ?_
    (refine AWp.seqR [0, 1, 2, 3, 4, 6, 7, 8, 9, 10, 11, 21, 39, 41] [] (by decide +kernel) fun K hK => ?_; simp -implicitDefEqProofs only [EV, Nat.reduceAdd, Nat.reduceEqDiff, reduceCtorEq, ]; refine ⟨_, .inl ⟨_, rfl, haw, rfl⟩, ?_⟩; (try simp -implicitDefEqProofs only [EV, Nat.reduceAdd, Nat.reduceEqDiff, reduceCtorEq, TF25, TF30]); refine ⟨_, .inl ⟨_, rfl, hf, rfl⟩, ?_⟩; (try simp -implicitDefEqProofs only [EV, Nat.reduceEqDiff, reduceCtorEq, ]); refine hK _ _ ?_; clear hK K)
    refine AWp.takeIfK rfl ?_
    (refine AWp.seqR [0, 1, 2, 3, 4, 6, 7, 8, 9, 10, 11, 21, 39, 41] [] (by decide +kernel) fun K hK => ?_; simp -implicitDefEqProofs only [EV, Nat.reduceAdd, Nat.reduceEqDiff, reduceCtorEq, ]; refine ⟨_, .inl ⟨_, rfl, haw, rfl⟩, ?_⟩; (try simp -implicitDefEqProofs only [EV, ]); refine hK _ _ ?_; clear hK K)
    exact AWp.ret ⟨_, by rw [Tryz.results7]; rfl, rfl⟩
  | true =>
    rw [hb] at hf
    obtain ⟨hp, hel, he, ht, hi⟩ := fewB_sm hb
    have c1 := ok_CCheck p hp env hel he t ht
    have c2 := ok_RCheck p hp env hel he t ht
    have c3 := ok_RCheck p hp env hel he i hi
    have c4 := ok_CAll p env [t, i] (show 2 ≤ sm by decide) fun u hu => ok_CCheck p hp env hel he u (by
      rcases List.mem_cons.1 hu with rfl | hu
      · exact ht
      · rw [List.mem_singleton.1 hu]; exact hi)
    have e : chkL p env [t, i] = match chk p env t with
      | some q => some q
      | none => chk p env i := by
      rw [chkL, chkL, chkL]
      cases chk p env t with
      | some q => rfl
      | none => cases chk p env i <;> rfl
    rw [e] at c4
    clear e
    simp only [tysV, tyR_cons, tyR_nil] at c4
    generalize chk p env t = o at *
    generalize chk p env i = o' at *
    (refine CallOK.of_body Tryz.func7 rfl (by decide) (by rw [Tryz.ntmps7]; simp) ?_; rw [Tryz.ntmps7])
    (refine AWp.seqR [0, 1, 2, 3, 4, 6, 7, 8, 9, 10, 11, 21, 39, 41] [] (by decide +kernel) fun K hK => ?_; simp -implicitDefEqProofs only [EV, Nat.reduceAdd, Nat.reduceEqDiff, Nat.reduceBEq, Nat.reduceLeDiff, reduceCtorEq, ]; refine hK _ _ ?_; clear hK K)
    refine AWp.seqK fun K1 hK1 => ?_
    (refine AWp.seqR [0, 1, 2, 3, 4, 6, 7, 8, 9, 10, 11, 21, 39, 41] [] (by decide +kernel) fun K hK => ?_; simp -implicitDefEqProofs only [EV, Nat.reduceAdd, Nat.reduceEqDiff, reduceCtorEq, ]; refine ⟨_, .inl ⟨_, rfl, haw, rfl⟩, ?_⟩; (try simp -implicitDefEqProofs only [EV, Nat.reduceAdd, Nat.reduceEqDiff, reduceCtorEq, TF25, TF30]); refine ⟨_, .inl ⟨_, rfl, hf, rfl⟩, ?_⟩; (try simp -implicitDefEqProofs only [EV, Nat.reduceEqDiff, reduceCtorEq, ]); refine hK _ _ ?_; clear hK K)
    refine AWp.skipIfK rfl hK1 ?_
    clear hK1 K1
    (refine AWp.seqR [0, 1, 2, 3, 4, 6, 7, 8, 9, 10, 11, 21, 39, 41] [] (by decide +kernel) fun K hK => ?_; simp -implicitDefEqProofs only [EV, Nat.reduceAdd, Nat.reduceEqDiff, reduceCtorEq, TF30]; refine ⟨_, .inl ⟨_, rfl, ok_New p hp, rfl⟩, ?_⟩; (try simp -implicitDefEqProofs only [EV, forall_const, implies_true, Nat.reduceAdd, Nat.reduceEqDiff, Nat.reduceBEq, Nat.reduceLeDiff, Nat.reduceSub, Nat.reduceMul, Int.reduceEq, Int.reduceLT, Int.reduceLE, Int.reduceSub, Int.reduceAdd, Int.reduceToNat, reduceCtorEq, Int.reduceNeg, TF3, TF4, TF9, TF23, TF25, TF30]); refine hK _ _ ?_; clear hK K)
    cases o with
    | some q =>
      have ct := ok_told (some q) q
      simp only [chkV, decide_true, Option.isSome_some] at c2 ct c4
      (refine AWp.seqR [0, 1, 2, 3, 4, 6, 7, 8, 9, 10, 11, 21, 39, 41] [] (by decide +kernel) fun K hK => ?_; simp -implicitDefEqProofs only [EV, Nat.reduceAdd, Nat.reduceEqDiff, reduceCtorEq, TF25, TF30]; refine ⟨_, .inl ⟨_, rfl, c2, rfl⟩, ?_⟩; (try simp -implicitDefEqProofs only [EV, Nat.reduceEqDiff, reduceCtorEq, ]); refine hK _ _ ?_; clear hK K)
      refine AWp.seqK fun K1 hK1 => ?_
      (refine AWp.seqR [0, 1, 2, 3, 4, 6, 7, 8, 9, 10, 11, 21, 39, 41] [] (by decide +kernel) fun K hK => ?_; simp -implicitDefEqProofs only [EV, Nat.reduceAdd, Nat.reduceEqDiff, reduceCtorEq, TF25]; refine ⟨_, .inl ⟨_, rfl, c1, rfl⟩, ?_⟩; (try simp -implicitDefEqProofs only [EV, Nat.reduceEqDiff, reduceCtorEq, ]); refine ⟨_, .inl ⟨_, rfl, ct, rfl⟩, ?_⟩; (try simp -implicitDefEqProofs only [EV, Nat.reduceEqDiff, reduceCtorEq, ]); refine hK _ _ ?_; clear hK K)
      refine AWp.skipIfK rfl hK1 ?_
      clear hK1 K1
      refine AWp.seqK fun K1 hK1 => ?_
      (refine AWp.seqR [0, 1, 2, 3, 4, 6, 7, 8, 9, 10, 11, 21, 39, 41] [] (by decide +kernel) fun K hK => ?_; simp -implicitDefEqProofs only [EV, Nat.reduceEqDiff, reduceCtorEq, ]; refine hK _ _ ?_; clear hK K)
      refine AWp.condF rfl (AWp.skip (hK1 _ _ ?_))
      clear hK1 K1
      (refine AWp.seqR [0, 1, 2, 3, 4, 6, 7, 8, 9, 10, 11, 21, 39, 41] [] (by decide +kernel) fun K hK => ?_; simp -implicitDefEqProofs only [EV, Nat.reduceAdd, Nat.reduceEqDiff, Nat.reduceLeDiff, Nat.reduceMul, reduceCtorEq, TF23, TF25]; refine ⟨_, .inl ⟨_, rfl, c4, rfl⟩, ?_⟩; (try simp -implicitDefEqProofs only [EV, Nat.reduceEqDiff, reduceCtorEq, ]); refine ⟨_, .inl ⟨_, rfl, ct, rfl⟩, ?_⟩; (try simp -implicitDefEqProofs only [EV, ]); refine hK _ _ ?_; clear hK K)
      exact AWp.ret ⟨_, by rw [Tryz.results7]; rfl, rfl⟩
    | none =>
      have ct := ok_told none 0
      simp only [chkV, Option.isSome_none] at c2 ct c4
      (refine AWp.seqR [0, 1, 2, 3, 4, 6, 7, 8, 9, 10, 11, 21, 39, 41] [] (by decide +kernel) fun K hK => ?_; simp -implicitDefEqProofs only [EV, Nat.reduceAdd, Nat.reduceEqDiff, reduceCtorEq, TF25, TF30]; refine ⟨_, .inl ⟨_, rfl, c2, rfl⟩, ?_⟩; (try simp -implicitDefEqProofs only [EV, Nat.reduceEqDiff, reduceCtorEq, ]); refine hK _ _ ?_; clear hK K)
      refine AWp.seqK fun K1 hK1 => ?_
      (refine AWp.seqR [0, 1, 2, 3, 4, 6, 7, 8, 9, 10, 11, 21, 39, 41] [] (by decide +kernel) fun K hK => ?_; simp -implicitDefEqProofs only [EV, Nat.reduceAdd, Nat.reduceEqDiff, reduceCtorEq, TF25]; refine ⟨_, .inl ⟨_, rfl, c1, rfl⟩, ?_⟩; (try simp -implicitDefEqProofs only [EV, Nat.reduceEqDiff, reduceCtorEq, ]); refine ⟨_, .inl ⟨_, rfl, ct, rfl⟩, ?_⟩; (try simp -implicitDefEqProofs only [EV, Nat.reduceEqDiff, reduceCtorEq, ]); refine hK _ _ ?_; clear hK K)
      refine AWp.skipIfK rfl hK1 ?_
      clear hK1 K1
      refine AWp.seqK fun K1 hK1 => ?_
      (refine AWp.seqR [0, 1, 2, 3, 4, 6, 7, 8, 9, 10, 11, 21, 39, 41] [] (by decide +kernel) fun K hK => ?_; simp -implicitDefEqProofs only [EV, Nat.reduceEqDiff, reduceCtorEq, ]; refine hK _ _ ?_; clear hK K)
      refine AWp.condT rfl ?_
      cases o' with
      | some q =>
        have ct' := ok_told (some q) q
        simp only [chkV, decide_true, Option.isSome_some] at c3 ct'
        (refine AWp.lastR [0, 1, 2, 3, 4, 6, 7, 8, 9, 10, 11, 21, 39, 41] [] (by decide +kernel) fun K hK => ?_; simp -implicitDefEqProofs only [EV, Nat.reduceAdd, Nat.reduceEqDiff, reduceCtorEq, TF25, TF30]; refine ⟨_, .inl ⟨_, rfl, c3, rfl⟩, ?_⟩; (try simp -implicitDefEqProofs only [EV, Nat.reduceEqDiff, reduceCtorEq, ]); refine hK _ _ ?_; clear hK K; try simp only [thenA, ])
        refine hK1 _ _ ?_
        clear hK1 K1
        (refine AWp.seqR [0, 1, 2, 3, 4, 6, 7, 8, 9, 10, 11, 21, 39, 41] [] (by decide +kernel) fun K hK => ?_; simp -implicitDefEqProofs only [EV, Nat.reduceAdd, Nat.reduceEqDiff, Nat.reduceLeDiff, Nat.reduceMul, reduceCtorEq, TF23, TF25]; refine ⟨_, .inl ⟨_, rfl, c4, rfl⟩, ?_⟩; (try simp -implicitDefEqProofs only [EV, Nat.reduceEqDiff, reduceCtorEq, ]); refine ⟨_, .inl ⟨_, rfl, ct', rfl⟩, ?_⟩; (try simp -implicitDefEqProofs only [EV, ]); refine hK _ _ ?_; clear hK K)
        exact AWp.ret ⟨_, by rw [Tryz.results7]; rfl, rfl⟩
      | none =>
        simp only [chkV] at c3
        (refine AWp.lastR [0, 1, 2, 3, 4, 6, 7, 8, 9, 10, 11, 21, 39, 41] [] (by decide +kernel) fun K hK => ?_; simp -implicitDefEqProofs only [EV, Nat.reduceAdd, Nat.reduceEqDiff, reduceCtorEq, TF25, TF30]; refine ⟨_, .inl ⟨_, rfl, c3, rfl⟩, ?_⟩; (try simp -implicitDefEqProofs only [EV, Nat.reduceEqDiff, reduceCtorEq, ]); refine hK _ _ ?_; clear hK K; try simp only [thenA, ])
        refine hK1 _ _ ?_
        clear hK1 K1
        (refine AWp.seqR [0, 1, 2, 3, 4, 6, 7, 8, 9, 10, 11, 21, 39, 41] [] (by decide +kernel) fun K hK => ?_; simp -implicitDefEqProofs only [EV, Nat.reduceAdd, Nat.reduceEqDiff, Nat.reduceLeDiff, Nat.reduceMul, reduceCtorEq, TF23, TF25]; refine ⟨_, .inl ⟨_, rfl, c4, rfl⟩, ?_⟩; (try simp -implicitDefEqProofs only [EV, Nat.reduceEqDiff, reduceCtorEq, ]); refine ⟨_, .inl ⟨_, rfl, ct, rfl⟩, ?_⟩; (try simp -implicitDefEqProofs only [EV, ]); refine hK _ _ ?_; clear hK K)
        exact AWp.ret ⟨_, by rw [Tryz.results7]; rfl, rfl⟩
end Go.Abs
