/- table.Kind -/
import Derived.Test.YtibfepggadjjgaaF13
namespace Go.Abs
set_option linter.unusedSimpArgs false
set_option linter.unusedVariables false
open Go Go.Proofs
set_option maxRecDepth 100000
set_option maxHeartbeats 1000000

theorem tabGet_type (p : Prog) (nm : Str) : tabGet p (tkey nm []) = p.decls.find? (fun d => d.isT nm) := by
  unfold tabGet
  congr 1
  funext d
  unfold keyOfD Decl.isT
  by_cases h1 : d.kind = 1 ∨ d.kind = 2
  · rw [if_pos h1]
    rcases h1 with h1 | h1 <;> simp [h1, tkey, D.lits, D.lit, eq_comm]
  · rw [if_neg h1]
    have h2 : ¬ d.kind = 1 := fun h => h1 (.inl h)
    have h3 : ¬ d.kind = 2 := fun h => h1 (.inr h)
    by_cases h4 : d.kind = 3 <;> simp [h2, h3, h4, tkey, D.lits, D.lit]
theorem ok_TKind (p : Prog) (h : p.Sm) (nm : Str) : CallOK Try.prog 41 [.dptr (tabC p) 0, strV nm] (intV (kindOf p nm)) := by
  have hg := ok_get p h nm []
  rw [tabGet_type] at hg
  have hk : kindOf p nm = ((p.decls.find? fun d => d.isT nm).getD default).kind := by unfold kindOf; cases p.decls.find? (fun d => d.isT nm) <;> rfl
  (refine CallOK.of_body Try.func41 rfl (by decide) (by rw [Try.ntmps41]; simp) ?_; rw [Try.ntmps41])
  (refine AWp.seqR [0, 1, 4, 5] [] (by decide +kernel) fun K hK => ?_; simp -implicitDefEqProofs only [EV, forall_const, implies_true, Nat.reduceAdd, Nat.reduceEqDiff, Nat.reduceBEq, Nat.reduceLeDiff, Nat.reduceSub, Nat.reduceMul, Int.reduceEq, Int.reduceLT, Int.reduceLE, Int.reduceSub, Int.reduceAdd, Int.reduceToNat, reduceCtorEq, Int.reduceNeg, TF3, TF4, TF9, TF49, TF79]; refine hK _ _ ?_; clear hK K)
  (refine AWp.seqR [0, 1, 4, 5] [] (by decide +kernel) fun K hK => ?_; simp -implicitDefEqProofs only [EV, forall_const, implies_true, Nat.reduceAdd, Nat.reduceEqDiff, Nat.reduceBEq, Nat.reduceLeDiff, Nat.reduceSub, Nat.reduceMul, Int.reduceEq, Int.reduceLT, Int.reduceLE, Int.reduceSub, Int.reduceAdd, Int.reduceToNat, reduceCtorEq, Int.reduceNeg, TF3, TF4, TF9, TF49, TF79])
  generalize (p.decls.find? fun d => d.isT nm).getD default = d at *
  refine ⟨_, .inl ⟨_, rfl, hg, rfl⟩, ?_⟩
  simp -implicitDefEqProofs only [EV, forall_const, implies_true, Nat.reduceAdd, Nat.reduceEqDiff, Nat.reduceBEq, Nat.reduceLeDiff, Nat.reduceSub, Nat.reduceMul, Int.reduceEq, Int.reduceLT, Int.reduceLE, Int.reduceSub, Int.reduceAdd, Int.reduceToNat, reduceCtorEq, Int.reduceNeg, TF3, TF4, TF9, TF49, TF79]
  (refine hK _ _ ?_; clear hK K)
  (refine AWp.seqR [0, 1, 4, 5] [] (by decide +kernel) fun K hK => ?_; simp -implicitDefEqProofs only [EV, forall_const, implies_true, Nat.reduceAdd, Nat.reduceEqDiff, Nat.reduceBEq, Nat.reduceLeDiff, Nat.reduceSub, Nat.reduceMul, Int.reduceEq, Int.reduceLT, Int.reduceLE, Int.reduceSub, Int.reduceAdd, Int.reduceToNat, reduceCtorEq, Int.reduceNeg, TF3, TF4, TF9, TF49, TF79]; refine hK _ _ ?_; clear hK K)
  rw [hk]
  exact AWp.ret ⟨_, by rw [Try.results41]; rfl, rfl⟩
end Go.Abs
