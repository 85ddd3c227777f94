/- castingslaw13.few; the laws' walks, given that awake answers true -/
import Derived.Test.YtenheogknlmohaaGreatDoorZS28
namespace Go.Abs
set_option linter.unusedSimpArgs false
set_option linter.unusedVariables false
open Go Go.Proofs
set_option maxRecDepth 100000
set_option maxHeartbeats 1000000

structure Few4 (p : Prog) (env : List Formal) (t i : Ty) : Prop where
  p : p.Sm
  el : env.length ≤ sm
  e : ∀ f, f ∈ env → f.Sm
  t : t.Sm
  i : i.Sm
def fewB (p : Prog) (env : List Formal) (t i : Ty) : Bool := decide (p.count ≤ 600) && decide ((envProg env).count ≤ 600) && decide (t.count 0 ≤ 200) && decide (i.count 0 ≤ 200)
theorem env_few {env : List Formal} (h : (envProg env).count ≤ 600) : env.length ≤ sm ∧ ∀ f, f ∈ env → f.Sm :=
  ((Prog.count_sm _ h).1.decls.2 _ (List.mem_cons_self ..)).formals
theorem fewB_sm {p : Prog} {env : List Formal} {t i : Ty} (h : fewB p env t i = true) : Few4 p env t i := by
  simp only [fewB, Bool.and_eq_true, decide_eq_true_eq] at h
  obtain ⟨⟨⟨h1, h2⟩, h3⟩, h4⟩ := h
  exact ⟨(Prog.count_sm p h1).1, (env_few h2).1, (env_few h2).2, Ty.count_sm t 0 (by decide) (by omega), Ty.count_sm i 0 (by decide) (by omega)⟩
theorem ok_few13 (p : Prog) (env : List Formal) (t i : Ty) : CallOK Tryz.prog 29 [prV p, .d (.slice (foR env)), tyV t, tyV i] (boolV (fewB p env t i)) := by
  have h1 := ok_Few06 p
  have h2 := ok_FewEnv env
  have h3 := ok_Few04 t
  have h4 := ok_Few04 i
  unfold fewB
  generalize decide (p.count ≤ 600) = b1 at *
  generalize decide ((envProg env).count ≤ 600) = b2 at *
  generalize decide (t.count 0 ≤ 200) = b3 at *
  generalize decide (i.count 0 ≤ 200) = b4 at *
  (refine CallOK.of_body Tryz.func29 rfl (by decide) (by rw [Tryz.ntmps29]; simp) ?_; rw [Tryz.ntmps29])
  (refine AWp.seqR [0, 1, 2, 3, 4, 6, 7, 8] [] (by decide +kernel) fun K hK => ?_; simp -implicitDefEqProofs only [EV, Nat.reduceAdd, Nat.reduceEqDiff, Nat.reduceBEq, Nat.reduceLeDiff, reduceCtorEq, ]; refine hK _ _ ?_; clear hK K)
  cases b1
  · (refine AWp.seqR [0, 1, 2, 3, 4, 6, 7, 8] [] (by decide +kernel) fun K hK => ?_; simp -implicitDefEqProofs only [EV, Nat.reduceAdd, Nat.reduceEqDiff, reduceCtorEq, TF30]; refine ⟨_, .inl ⟨_, rfl, h1, rfl⟩, ?_⟩; (try simp -implicitDefEqProofs only [EV, Nat.reduceEqDiff, reduceCtorEq, ]); refine hK _ _ ?_; clear hK K)
    exact AWp.ret ⟨_, by rw [Tryz.results29]; rfl, rfl⟩
  · cases b2
    · (refine AWp.seqR [0, 1, 2, 3, 4, 6, 7, 8] [] (by decide +kernel) fun K hK => ?_; simp -implicitDefEqProofs only [EV, Nat.reduceAdd, Nat.reduceEqDiff, reduceCtorEq, TF30]; refine ⟨_, .inl ⟨_, rfl, h1, rfl⟩, ?_⟩; (try simp -implicitDefEqProofs only [EV, Nat.reduceAdd, Nat.reduceEqDiff, reduceCtorEq, ]); refine ⟨_, .inl ⟨_, rfl, h2, rfl⟩, ?_⟩; (try simp -implicitDefEqProofs only [EV, Nat.reduceEqDiff, reduceCtorEq, ]); refine hK _ _ ?_; clear hK K)
      exact AWp.ret ⟨_, by rw [Tryz.results29]; rfl, rfl⟩
    · cases b3
      · (refine AWp.seqR [0, 1, 2, 3, 4, 6, 7, 8] [] (by decide +kernel) fun K hK => ?_; simp -implicitDefEqProofs only [EV, Nat.reduceAdd, Nat.reduceEqDiff, reduceCtorEq, TF30]; refine ⟨_, .inl ⟨_, rfl, h1, rfl⟩, ?_⟩; (try simp -implicitDefEqProofs only [EV, Nat.reduceAdd, Nat.reduceEqDiff, reduceCtorEq, ]); refine ⟨_, .inl ⟨_, rfl, h2, rfl⟩, ?_⟩; (try simp -implicitDefEqProofs only [EV, Nat.reduceAdd, Nat.reduceEqDiff, reduceCtorEq, TF25]); refine ⟨_, .inl ⟨_, rfl, h3, rfl⟩, ?_⟩; (try simp -implicitDefEqProofs only [EV, Nat.reduceEqDiff, reduceCtorEq, ]); refine hK _ _ ?_; clear hK K)
        exact AWp.ret ⟨_, by rw [Tryz.results29]; rfl, rfl⟩
      · (refine AWp.seqR [0, 1, 2, 3, 4, 6, 7, 8] [] (by decide +kernel) fun K hK => ?_; simp -implicitDefEqProofs only [EV, Nat.reduceAdd, Nat.reduceEqDiff, reduceCtorEq, TF30]; refine ⟨_, .inl ⟨_, rfl, h1, rfl⟩, ?_⟩; (try simp -implicitDefEqProofs only [EV, Nat.reduceAdd, Nat.reduceEqDiff, reduceCtorEq, ]); refine ⟨_, .inl ⟨_, rfl, h2, rfl⟩, ?_⟩; (try simp -implicitDefEqProofs only [EV, Nat.reduceAdd, Nat.reduceEqDiff, reduceCtorEq, TF25]); refine ⟨_, .inl ⟨_, rfl, h3, rfl⟩, ?_⟩; (try simp -implicitDefEqProofs only [EV, Nat.reduceAdd, Nat.reduceEqDiff, reduceCtorEq, TF25]); refine ⟨_, .inl ⟨_, rfl, h4, rfl⟩, ?_⟩; (try simp -implicitDefEqProofs only [EV, ]); refine hK _ _ ?_; clear hK K)
        exact AWp.ret ⟨_, by rw [Tryz.results29]; rfl, rfl⟩
theorem law13_matches (haw : CallOK Tryz.prog 28 [] (boolV true)) (p : Prog) (env : List Formal) (t i : Ty) : CallOK Tryz.prog 6 [prV p, .d (.slice (foR env)), tyV t, tyV i] (boolV true) := by
  have hf := ok_few13 p env t i
  cases hb : fewB p env t i with
  | false =>
    rw [hb] at hf
    (refine CallOK.of_body Tryz.func6 rfl (by decide) (by rw [Tryz.ntmps6]; simp) ?_; rw [Tryz.ntmps6])
    (refine AWp.seqR [0, 1, 2, 3, 4, 6, 7, 8, 9, 19] [] (by decide +kernel) fun K hK => ?_; simp -implicitDefEqProofs only [EV, Nat.reduceAdd, Nat.reduceEqDiff, Nat.reduceBEq, Nat.reduceLeDiff, reduceCtorEq, ]; refine hK _ _ ?_; clear hK K)
    refine AWp.seqK fun K1 hK1 => ?_
    (refine AWp.seqR [0, 1, 2, 3, 4, 6, 7, 8, 9, 19] [] (by decide +kernel) fun K hK => ?_; simp -implicitDefEqProofs only [EV, Nat.reduceAdd, Nat.reduceEqDiff, reduceCtorEq, ]; refine ⟨_, .inl ⟨_, rfl, haw, rfl⟩, ?_⟩; (try simp -implicitDefEqProofs only [EV, Nat.reduceAdd, Nat.reduceEqDiff, reduceCtorEq, TF25, TF30]); refine ⟨_, .inl ⟨_, rfl, hf, rfl⟩, ?_⟩; (try simp -implicitDefEqProofs only [EV, Nat.reduceEqDiff, reduceCtorEq, ]); refine hK _ _ ?_; clear hK K)
    refine AWp.takeIfK rfl ?_
    (refine AWp.seqR [0, 1, 2, 3, 4, 6, 7, 8, 9, 19] [] (by decide +kernel) fun K hK => ?_; simp -implicitDefEqProofs only [EV, Nat.reduceAdd, Nat.reduceEqDiff, reduceCtorEq, ]; refine ⟨_, .inl ⟨_, rfl, haw, rfl⟩, ?_⟩; (try simp -implicitDefEqProofs only [EV, ]); refine hK _ _ ?_; clear hK K)
    exact AWp.ret ⟨_, by rw [Tryz.results6]; rfl, rfl⟩
  | true =>
    rw [hb] at hf
    obtain ⟨hp, hel, he, ht, hi⟩ := fewB_sm hb
    (refine CallOK.of_body Tryz.func6 rfl (by decide) (by rw [Tryz.ntmps6]; simp) ?_; rw [Tryz.ntmps6])
    (refine AWp.seqR [0, 1, 2, 3, 4, 6, 7, 8, 9, 19] [] (by decide +kernel) fun K hK => ?_; simp -implicitDefEqProofs only [EV, Nat.reduceAdd, Nat.reduceEqDiff, Nat.reduceBEq, Nat.reduceLeDiff, reduceCtorEq, ]; refine hK _ _ ?_; clear hK K)
    refine AWp.seqK fun K1 hK1 => ?_
    (refine AWp.seqR [0, 1, 2, 3, 4, 6, 7, 8, 9, 19] [] (by decide +kernel) fun K hK => ?_; simp -implicitDefEqProofs only [EV, Nat.reduceAdd, Nat.reduceEqDiff, reduceCtorEq, ]; refine ⟨_, .inl ⟨_, rfl, haw, rfl⟩, ?_⟩; (try simp -implicitDefEqProofs only [EV, Nat.reduceAdd, Nat.reduceEqDiff, reduceCtorEq, TF25, TF30]); refine ⟨_, .inl ⟨_, rfl, hf, rfl⟩, ?_⟩; (try simp -implicitDefEqProofs only [EV, Nat.reduceEqDiff, reduceCtorEq, ]); refine hK _ _ ?_; clear hK K)
    refine AWp.skipIfK rfl hK1 ?_
    clear hK1 K1
    (refine AWp.seqR [0, 1, 2, 3, 4, 6, 7, 8, 9, 19] [] (by decide +kernel) fun K hK => ?_; simp -implicitDefEqProofs only [EV, Nat.reduceAdd, Nat.reduceEqDiff, reduceCtorEq, TF30]; refine ⟨_, .inl ⟨_, rfl, ok_New p hp, rfl⟩, ?_⟩; (try simp -implicitDefEqProofs only [EV, forall_const, implies_true, Nat.reduceAdd, Nat.reduceEqDiff, Nat.reduceBEq, Nat.reduceLeDiff, Nat.reduceSub, Nat.reduceMul, Int.reduceEq, Int.reduceLT, Int.reduceLE, Int.reduceSub, Int.reduceAdd, Int.reduceToNat, reduceCtorEq, Int.reduceNeg, TF3, TF4, TF9, TF25, TF30]); refine hK _ _ ?_; clear hK K)
    have c1 := ok_Implements p hp env hel he t i ht hi
    have c2 := ok_RImplements p hp env hel he t i ht hi
    have c3 := ok_IsInterface p hp env hel he t ht
    have c4 := ok_RIsInterface p env hel t
    generalize implB p env t i = b1 at *
    generalize isIface p env t = b2 at *
    cases b1 <;> cases b2 <;> (
      (refine AWp.seqD [0, 1, 2, 3, 4, 6, 7, 8, 9, 19] [] 23 mixed (by decide +kernel) (by decide +kernel) fun K hK => ?_; simp -implicitDefEqProofs only [EV, Nat.reduceAdd, Nat.reduceEqDiff, reduceCtorEq, TF25, TF30]; refine ⟨_, .inl ⟨_, rfl, c1, rfl⟩, ?_⟩; (try simp -implicitDefEqProofs only [EV, ]); refine ⟨_, .inl ⟨_, rfl, c2, rfl⟩, ?_⟩; (try simp -implicitDefEqProofs only [EV, Nat.reduceAdd, Nat.reduceEqDiff, reduceCtorEq, TF4, TF25, TF30, beq_self_eq_true]); refine ⟨_, .inl ⟨_, rfl, c3, rfl⟩, ?_⟩; (try simp -implicitDefEqProofs only [EV, ]); refine ⟨_, .inl ⟨_, rfl, c4, rfl⟩, ?_⟩; (try simp -implicitDefEqProofs only [EV, Nat.reduceEqDiff, reduceCtorEq, TF4, beq_self_eq_true]); refine hK _ _ ?_; clear hK K)
      exact AWp.ret ⟨_, by rw [Tryz.results6]; rfl, rfl⟩)
end Go.Abs
