/- table.Program, get, Kind -/
import Derived.Test.YtibfepggadjjgaaF14
namespace Go.Abs
set_option linter.unusedSimpArgs false
set_option linter.unusedVariables false
open Go Go.Proofs
set_option maxRecDepth 100000
set_option maxHeartbeats 1000000

theorem ok_TProgram (p : Prog) (h : p.Sm) : CallOK Try.prog 42 [.dptr (tabC p) 0] (prV p) := by
  (refine CallOK.of_body Try.func42 rfl (by decide) (by rw [Try.ntmps42]; simp) ?_; rw [Try.ntmps42])
  (refine AWp.seqR [0, 2, 4] [] (by decide +kernel) fun K hK => ?_; simp -implicitDefEqProofs only [EV, forall_const, implies_true, Nat.reduceAdd, Nat.reduceEqDiff, Nat.reduceBEq, Nat.reduceLeDiff, Nat.reduceSub, Nat.reduceMul, Int.reduceEq, Int.reduceLT, Int.reduceLE, Int.reduceSub, Int.reduceAdd, Int.reduceToNat, reduceCtorEq, Int.reduceNeg, TF3, TF4, TF9, TF30, TF77]; refine hK _ _ ?_; clear hK K)
  refine AWp.seqK fun K1 hK1 => ?_
  (refine AWp.seqR [0, 2, 4] [] (by decide +kernel) fun K hK => ?_; simp -implicitDefEqProofs only [EV, forall_const, implies_true, Nat.reduceAdd, Nat.reduceEqDiff, Nat.reduceBEq, Nat.reduceLeDiff, Nat.reduceSub, Nat.reduceMul, Int.reduceEq, Int.reduceLT, Int.reduceLE, Int.reduceSub, Int.reduceAdd, Int.reduceToNat, reduceCtorEq, Int.reduceNeg, TF3, TF4, TF9, TF30, TF77, TF60]; refine hK _ _ ?_; clear hK K)
  refine AWp.condF rfl (AWp.skip (hK1 _ _ ?_))
  clear hK1 K1
  (refine AWp.seqR [0, 2, 4] [] (by decide +kernel) fun K hK => ?_; simp -implicitDefEqProofs only [EV, forall_const, implies_true, Nat.reduceAdd, Nat.reduceEqDiff, Nat.reduceBEq, Nat.reduceLeDiff, Nat.reduceSub, Nat.reduceMul, Int.reduceEq, Int.reduceLT, Int.reduceLE, Int.reduceSub, Int.reduceAdd, Int.reduceToNat, reduceCtorEq, Int.reduceNeg, TF3, TF4, TF9, TF30, TF77, tabC])
  refine ⟨prV p, .inl ⟨_, rfl, ok_PClone p h, rfl⟩, ?_⟩
  simp -implicitDefEqProofs only [EV, forall_const, implies_true, Nat.reduceAdd, Nat.reduceEqDiff, Nat.reduceBEq, Nat.reduceLeDiff, Nat.reduceSub, Nat.reduceMul, Int.reduceEq, Int.reduceLT, Int.reduceLE, Int.reduceSub, Int.reduceAdd, Int.reduceToNat, reduceCtorEq, Int.reduceNeg, TF3, TF4, TF9, TF30, TF77, tabC]
  (refine hK _ _ ?_; clear hK K)
  exact AWp.ret ⟨_, by rw [Try.results42]; rfl, rfl⟩

/-- the first declaration of a key -/
def tabGet (p : Prog) (k : D) : Option Decl := p.decls.find? fun d => match keyOfD d with | some k' => decide (k.lits = k'.lits) | none => false
theorem firstK_find (l : List Lit) : ∀ (ds : List Decl) (i : Nat), (firstK l ds i = none ∧ (ds.find? fun d => match keyOfD d with | some k' => decide (l = k'.lits) | none => false) = none) ∨
    ∃ j d, ds[j]? = some d ∧ firstK l ds i = some (.int .i64 ((i + j : Nat) : Int)) ∧ (ds.find? fun d => match keyOfD d with | some k' => decide (l = k'.lits) | none => false) = some d
  | [], i => .inl ⟨rfl, rfl⟩
  | d :: ds, i => by
    simp only [firstK, List.find?_cons]
    have ih := firstK_find l ds (i + 1)
    cases hk : keyOfD d with
    | none =>
      simp only
      rcases ih with h | ⟨j, d', h1, h2, h3⟩
      · exact .inl h
      · exact .inr ⟨j + 1, d', by simpa using h1, by rw [h2]; congr 3; omega, h3⟩
    | some k =>
      simp only
      by_cases hl : l = k.lits
      · simp only [hl, if_true, decide_true]
        exact .inr ⟨0, d, rfl, by simp, rfl⟩
      · simp only [hl, if_false, decide_false]
        rcases ih with h | ⟨j, d', h1, h2, h3⟩
        · exact .inl h
        · exact .inr ⟨j + 1, d', by simpa using h1, by rw [h2]; congr 3; omega, h3⟩

instance : Inhabited Prog := ⟨⟨[], default⟩⟩
theorem tabM_keys (p : Prog) (h : p.Sm) : ∀ kv, kv ∈ tabM p → KeyAt Try.prog 79 kv.1 := by
  have go : ∀ (ds : List Decl) (i : Nat) (m : List (D × D)), (∀ d, d ∈ ds → d.Sm) → (∀ kv, kv ∈ m → KeyAt Try.prog 79 kv.1) → ∀ kv, kv ∈ tabF ds i m → KeyAt Try.prog 79 kv.1 := by
    intro ds
    induction ds with
    | nil => intro i m _ h; exact h
    | cons d ds ih =>
      intro i m hd hm
      refine ih (i + 1) _ (fun x hx => hd x (by simp [hx])) ?_
      have hdm := hd d (by simp)
      unfold tabStep
      cases hk : keyOfD d with
      | none => exact hm
      | some k =>
        simp only
        split
        · exact hm
        · refine kput_keys hm ?_
          unfold keyOfD at hk
          have h1 := hdm.name
          have h2 := hdm.sig.name
          split at hk
          · simp only [Option.some.injEq] at hk; subst hk
            exact key_two two79 _ _ (by unfold sm lim at *; omega) (by simp)
          · split at hk
            · simp only [Option.some.injEq] at hk; subst hk
              exact key_two two79 _ _ (by unfold sm lim at *; omega) (by simp only [List.length_cons]; unfold sm lim at *; omega)
            · simp at hk
  exact go p.decls 0 [] h.decls.2 (by simp)

theorem ok_get (p : Prog) (h : p.Sm) (a b : Str) : CallOK Try.prog 50 [.dptr (tabC p) 0, .agg [.d (.str a), .d (.str b)]]
    (.tuple [deV ((tabGet p (tkey a b)).getD default), boolV (tabGet p (tkey a b)).isSome]) := by
  refine CallB.bd (Enters.of Try.func50 rfl (by decide)) fun hbd => ?_
  have hbd2 := hbd.2.1
  simp only [SV.bd, SV.bdL] at hbd2
  have hk := key_two two79 a b (str_bd hbd2.1) (str_bd hbd2.2.1)
  have hkv : kval (tkey a b).lits (tabM p) = firstK (tkey a b).lits p.decls 0 := by unfold tabM; rw [kval_tabF]; rfl
  unfold kval at hkv
  (refine CallOK.of_body Try.func50 rfl (by decide) (by rw [Try.ntmps50]; simp) ?_; rw [Try.ntmps50])
  (refine AWp.seqR [0, 1, 3, 4, 5, 6, 7, 9, 21] [] (by decide +kernel) fun K hK => ?_; simp -implicitDefEqProofs only [EV, forall_const, implies_true, Nat.reduceAdd, Nat.reduceEqDiff, Nat.reduceBEq, Nat.reduceLeDiff, Nat.reduceSub, Nat.reduceMul, Int.reduceEq, Int.reduceLT, Int.reduceLE, Int.reduceSub, Int.reduceAdd, Int.reduceToNat, reduceCtorEq, Int.reduceNeg, TF3, TF4, TF9, TF22, TF30, TF49, TF75, TF77, TF79]; refine hK _ _ ?_; clear hK K)
  refine AWp.seqK fun K1 hK1 => ?_
  (refine AWp.seqR [0, 1, 3, 4, 5, 6, 7, 9, 21] [] (by decide +kernel) fun K hK => ?_; simp -implicitDefEqProofs only [EV, forall_const, implies_true, Nat.reduceAdd, Nat.reduceEqDiff, Nat.reduceBEq, Nat.reduceLeDiff, Nat.reduceSub, Nat.reduceMul, Int.reduceEq, Int.reduceLT, Int.reduceLE, Int.reduceSub, Int.reduceAdd, Int.reduceToNat, reduceCtorEq, Int.reduceNeg, TF3, TF4, TF9, TF22, TF30, TF49, TF75, TF77, TF79, TF60]; refine hK _ _ ?_; clear hK K)
  refine AWp.condF rfl (AWp.skip (hK1 _ _ ?_))
  clear hK1 K1
  (refine AWp.seqD [0, 1, 3, 4, 5, 6, 7, 9, 21] [] 11 mixed (by decide +kernel) (by decide +kernel) fun K hK => ?_; simp -implicitDefEqProofs only [EV, forall_const, implies_true, Nat.reduceAdd, Nat.reduceEqDiff, Nat.reduceBEq, Nat.reduceLeDiff, Nat.reduceSub, Nat.reduceMul, Int.reduceEq, Int.reduceLT, Int.reduceLE, Int.reduceSub, Int.reduceAdd, Int.reduceToNat, reduceCtorEq, Int.reduceNeg, TF3, TF4, TF9, TF22, TF30, TF49, TF75, TF77, TF79, tabC])
  refine ⟨tabM_keys p h, hk, ?_⟩
  (refine hK _ _ ?_; clear hK K)
  refine AWp.seqK fun K1 hK1 => ?_
  rcases firstK_find (tkey a b).lits p.decls 0 with ⟨h1, h2⟩ | ⟨j, d, h1, h2, h3⟩
  · rw [h1] at hkv
    have hn : kfind (D.agg [D.str a, D.str b]).lits (tabM p) 0 = none := by simpa [tkey] using hkv
    have hg : tabGet p (tkey a b) = none := h2
    rw [hn]
    (refine AWp.seqR [0, 1, 3, 4, 5, 6, 7, 9, 21] [] (by decide +kernel) fun K hK => ?_; simp -implicitDefEqProofs only [EV, forall_const, implies_true, Nat.reduceAdd, Nat.reduceEqDiff, Nat.reduceBEq, Nat.reduceLeDiff, Nat.reduceSub, Nat.reduceMul, Int.reduceEq, Int.reduceLT, Int.reduceLE, Int.reduceSub, Int.reduceAdd, Int.reduceToNat, reduceCtorEq, Int.reduceNeg, TF3, TF4, TF9, TF22, TF30, TF49, TF75, TF77, TF79]; refine hK _ _ ?_; clear hK K)
    refine AWp.condT rfl ?_
    (refine AWp.seqR [0, 1, 3, 4, 5, 6, 7, 9, 21] [] (by decide +kernel) fun K hK => ?_; simp -implicitDefEqProofs only [EV, forall_const, implies_true, Nat.reduceAdd, Nat.reduceEqDiff, Nat.reduceBEq, Nat.reduceLeDiff, Nat.reduceSub, Nat.reduceMul, Int.reduceEq, Int.reduceLT, Int.reduceLE, Int.reduceSub, Int.reduceAdd, Int.reduceToNat, reduceCtorEq, Int.reduceNeg, TF3, TF4, TF9, TF22, TF30, TF49, TF75, TF77, TF79]; refine hK _ _ ?_; clear hK K)
    rw [hg]
    exact AWp.ret ⟨_, by rw [Try.results50]; rfl, rfl⟩
  · rw [h2] at hkv
    obtain ⟨q, hq⟩ : ∃ q, kfind (D.agg [D.str a, D.str b]).lits (tabM p) 0 = some (q, .int .i64 ((0 + j : Nat) : Int)) := by
      cases hf : kfind (D.agg [D.str a, D.str b]).lits (tabM p) 0 with
      | none => rw [show (tkey a b).lits = (D.agg [D.str a, D.str b]).lits from rfl, hf] at hkv; simp at hkv
      | some qd =>
        rw [show (tkey a b).lits = (D.agg [D.str a, D.str b]).lits from rfl, hf] at hkv
        obtain ⟨q, d'⟩ := qd
        simp only [Option.map_some, Option.some.injEq] at hkv
        exact ⟨q, by rw [hkv]⟩
    have hl : lookV (D.agg [D.str a, D.str b]) (tabM p) (SV.d (D.int IntKind.i64 0)) = intV j := by simp only [lookV, hq, ofD, Nat.zero_add]
    have hg : tabGet p (tkey a b) = some d := h3
    rw [hl, hq]
    (refine AWp.seqR [0, 1, 3, 4, 5, 6, 7, 9, 21] [] (by decide +kernel) fun K hK => ?_; simp -implicitDefEqProofs only [EV, forall_const, implies_true, Nat.reduceAdd, Nat.reduceEqDiff, Nat.reduceBEq, Nat.reduceLeDiff, Nat.reduceSub, Nat.reduceMul, Int.reduceEq, Int.reduceLT, Int.reduceLE, Int.reduceSub, Int.reduceAdd, Int.reduceToNat, reduceCtorEq, Int.reduceNeg, TF3, TF4, TF9, TF22, TF30, TF49, TF75, TF77, TF79]; refine hK _ _ ?_; clear hK K)
    refine AWp.condF rfl (AWp.skip (hK1 _ _ ?_))
    clear hK1 K1
    (refine AWp.seqR [0, 1, 3, 4, 5, 6, 7, 9, 21] [] (by decide +kernel) fun K hK => ?_; simp -implicitDefEqProofs only [EV, forall_const, implies_true, Nat.reduceAdd, Nat.reduceEqDiff, Nat.reduceBEq, Nat.reduceLeDiff, Nat.reduceSub, Nat.reduceMul, Int.reduceEq, Int.reduceLT, Int.reduceLE, Int.reduceSub, Int.reduceAdd, Int.reduceToNat, reduceCtorEq, Int.reduceNeg, TF3, TF4, TF9, TF22, TF30, TF49, TF75, TF77, TF79])
    refine ⟨by omega, deC d, deR_get h1, rfl, ?_⟩
    simp -implicitDefEqProofs only [EV, forall_const, implies_true, Nat.reduceAdd, Nat.reduceEqDiff, Nat.reduceBEq, Nat.reduceLeDiff, Nat.reduceSub, Nat.reduceMul, Int.reduceEq, Int.reduceLT, Int.reduceLE, Int.reduceSub, Int.reduceAdd, Int.reduceToNat, reduceCtorEq, Int.reduceNeg, TF3, TF4, TF9, TF22, TF30, TF49, TF75, TF77, TF79]
    (refine hK _ _ ?_; clear hK K)
    rw [hg]
    exact AWp.ret ⟨_, by rw [Try.results50]; rfl, rfl⟩
end Go.Abs
