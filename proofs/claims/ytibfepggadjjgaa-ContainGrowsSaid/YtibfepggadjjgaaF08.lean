/- slices.Index, types.Subst, types.All with nothing to put in, types.Clone -/
import Derived.Test.YtibfepggadjjgaaF07
namespace Go.Abs
set_option linter.unusedSimpArgs false
set_option linter.unusedVariables false
open Go Go.Proofs
set_option maxRecDepth 100000
set_option maxHeartbeats 1000000

def indexS (s : Str) : List Str → Nat → Int
  | [], _ => -1
  | x :: xs, i => if s = x then i else indexS s xs (i + 1)
theorem indexS_find (s : Str) : ∀ (l : List Str) (i : Nat), (indexS s l i = -1 ∧ s ∉ l) ∨ ∃ k, l[k]? = some s ∧ indexS s l i = ((i + k : Nat) : Int)
  | [], i => by simp [indexS]
  | d :: ds, i => by
    simp only [indexS]
    split
    · rename_i h; subst h; exact .inr ⟨0, rfl, rfl⟩
    · rename_i h
      rcases indexS_find s ds (i + 1) with ⟨h1, h2⟩ | ⟨k, h1, h2⟩
      · exact .inl ⟨h1, by simp [h, h2]⟩
      · exact .inr ⟨k + 1, by simpa using h1, by rw [h2]; congr 1; omega⟩

theorem ok_Index (l : List Str) (s : Str) : CallOK Try.prog 77 [strsV l, strV s] (intV (indexS s l 0)) := by
  refine CallB.bd (Enters.of Try.func77 rfl (by decide)) fun hbd => ?_
  have hl := (strs_ok hbd.1).1
  (refine CallOK.of_body Try.func77 rfl (by decide) (by rw [Try.ntmps77]; simp) ?_; rw [Try.ntmps77])
  (refine AWp.seqR [0, 1, 4, 5, 7, 8, 9, 16] [] (by decide +kernel) fun K hK => ?_; simp -implicitDefEqProofs only [EV, forall_const, implies_true, Nat.reduceAdd, Nat.reduceEqDiff, Nat.reduceBEq, Nat.reduceLeDiff, Nat.reduceSub, Nat.reduceMul, Int.reduceEq, Int.reduceLT, Int.reduceLE, Int.reduceSub, Int.reduceAdd, Int.reduceToNat, reduceCtorEq, Int.reduceNeg, TF3, TF4, TF9, TF33]; refine hK _ _ ?_; clear hK K)
  refine AWp.seqK fun K1 hK1 => ?_
  have fin : ∀ sl bx, indexS s l 0 = -1 → K1 sl bx := by
    intro sl bx h1
    refine hK1 _ _ (AWp.weaken (sl' := []) (bx' := []) trivial trivial ?_)
    clear hK1 K1
    (refine AWp.seqR [0, 1, 4, 5, 7, 8, 9, 16] [] (by decide +kernel) fun K hK => ?_; simp -implicitDefEqProofs only [EV, forall_const, implies_true, Nat.reduceAdd, Nat.reduceEqDiff, Nat.reduceBEq, Nat.reduceLeDiff, Nat.reduceSub, Nat.reduceMul, Int.reduceEq, Int.reduceLT, Int.reduceLE, Int.reduceSub, Int.reduceAdd, Int.reduceToNat, reduceCtorEq, Int.reduceNeg, TF3, TF4, TF9, TF33]; refine hK _ _ ?_; clear hK K)
    rw [h1]
    exact AWp.ret ⟨_, by rw [Try.results77]; rfl, rfl⟩
  (refine AWp.seqR [0, 1, 4, 5, 7, 8, 9, 16] [] (by decide +kernel) fun K hK => ?_; simp -implicitDefEqProofs only [EV, forall_const, implies_true, Nat.reduceAdd, Nat.reduceEqDiff, Nat.reduceBEq, Nat.reduceLeDiff, Nat.reduceSub, Nat.reduceMul, Int.reduceEq, Int.reduceLT, Int.reduceLE, Int.reduceSub, Int.reduceAdd, Int.reduceToNat, reduceCtorEq, Int.reduceNeg, TF3, TF4, TF9, TF33]; refine hK _ _ ?_; clear hK K)
  refine AWp.block (AWp.loop (X := Nat) (fun x => [(8, intV x), (7, intV l.length), (0, strsV l), (1, strV s)]) (fun _ => [])
    (fun x => x ≤ l.length ∧ indexS s (l.drop x) x = indexS s l 0) (fun x => l.length - x) 0 ?_ ?_ ?_ ?_)
  · exact ⟨by simp, by simp⟩
  · exact (by simp [sle, vle, sget])
  · exact (by simp [ble, bget, exC, tyC, foC, paC, siC, deC, prC])
  rintro j ⟨hj, heq⟩
  by_cases hlt : (j : Int) < (l.length : Int)
  · have hlt' : j < l.length := by omega
    have hy : l[j]? = some l[j] := List.getElem?_eq_getElem hlt'
    have hdrop : l.drop j = l[j] :: l.drop (j + 1) := List.drop_eq_getElem_cons hlt'
    generalize l[j] = y at *
    rw [hdrop, indexS] at heq
    (refine AWp.seqR [0, 1, 4, 5, 7, 8, 9, 16] [] (by decide +kernel) fun K hK => ?_; simp -implicitDefEqProofs only [EV, forall_const, implies_true, Nat.reduceAdd, Nat.reduceEqDiff, Nat.reduceBEq, Nat.reduceLeDiff, Nat.reduceSub, Nat.reduceMul, Int.reduceEq, Int.reduceLT, Int.reduceLE, Int.reduceSub, Int.reduceAdd, Int.reduceToNat, reduceCtorEq, Int.reduceNeg, TF3, TF4, TF9, TF33, hlt]; refine hK _ _ ?_; clear hK K)
    refine AWp.seqK fun K2 hK2 => ?_
    refine AWp.condT rfl (AWp.skip (hK2 _ _ ?_))
    clear hK2 K2
    refine AWp.seqK fun K2 hK2 => ?_
    refine AWp.block ?_
    (refine AWp.seqR [0, 1, 4, 5, 7, 8, 9, 16] [] (by decide +kernel) fun K hK => ?_; simp -implicitDefEqProofs only [EV, forall_const, implies_true, Nat.reduceAdd, Nat.reduceEqDiff, Nat.reduceBEq, Nat.reduceLeDiff, Nat.reduceSub, Nat.reduceMul, Int.reduceEq, Int.reduceLT, Int.reduceLE, Int.reduceSub, Int.reduceAdd, Int.reduceToNat, reduceCtorEq, Int.reduceNeg, TF3, TF4, TF9, TF33]; refine hK _ _ ?_; clear hK K)
    by_cases hn : s = y
    · rw [if_pos hn] at heq
      (refine AWp.seqR [0, 1, 4, 5, 7, 8, 9, 16] [] (by decide +kernel) fun K hK => ?_; simp -implicitDefEqProofs only [EV, forall_const, implies_true, Nat.reduceAdd, Nat.reduceEqDiff, Nat.reduceBEq, Nat.reduceLeDiff, Nat.reduceSub, Nat.reduceMul, Int.reduceEq, Int.reduceLT, Int.reduceLE, Int.reduceSub, Int.reduceAdd, Int.reduceToNat, reduceCtorEq, Int.reduceNeg, TF3, TF4, TF9, TF33, hlt, hn])
      refine ⟨by omega, _, strR_get hy, rfl, ?_⟩
      simp -implicitDefEqProofs only [EV, forall_const, implies_true, Nat.reduceAdd, Nat.reduceEqDiff, Nat.reduceBEq, Nat.reduceLeDiff, Nat.reduceSub, Nat.reduceMul, Int.reduceEq, Int.reduceLT, Int.reduceLE, Int.reduceSub, Int.reduceAdd, Int.reduceToNat, reduceCtorEq, Int.reduceNeg, TF3, TF4, TF9, TF33, hlt, hn]
      (refine hK _ _ ?_; clear hK K)
      refine AWp.condT rfl ?_
      (refine AWp.seqR [0, 1, 4, 5, 7, 8, 9, 16] [] (by decide +kernel) fun K hK => ?_; simp -implicitDefEqProofs only [EV, forall_const, implies_true, Nat.reduceAdd, Nat.reduceEqDiff, Nat.reduceBEq, Nat.reduceLeDiff, Nat.reduceSub, Nat.reduceMul, Int.reduceEq, Int.reduceLT, Int.reduceLE, Int.reduceSub, Int.reduceAdd, Int.reduceToNat, reduceCtorEq, Int.reduceNeg, TF3, TF4, TF9, TF33]; refine hK _ _ ?_; clear hK K)
      rw [← heq]
      exact AWp.ret ⟨_, by rw [Try.results77]; rfl, rfl⟩
    · rw [if_neg hn] at heq
      (refine AWp.seqR [0, 1, 4, 5, 7, 8, 9, 16] [] (by decide +kernel) fun K hK => ?_; simp -implicitDefEqProofs only [EV, forall_const, implies_true, Nat.reduceAdd, Nat.reduceEqDiff, Nat.reduceBEq, Nat.reduceLeDiff, Nat.reduceSub, Nat.reduceMul, Int.reduceEq, Int.reduceLT, Int.reduceLE, Int.reduceSub, Int.reduceAdd, Int.reduceToNat, reduceCtorEq, Int.reduceNeg, TF3, TF4, TF9, TF33, hlt, hn])
      refine ⟨by omega, _, strR_get hy, rfl, ?_⟩
      simp -implicitDefEqProofs only [EV, forall_const, implies_true, Nat.reduceAdd, Nat.reduceEqDiff, Nat.reduceBEq, Nat.reduceLeDiff, Nat.reduceSub, Nat.reduceMul, Int.reduceEq, Int.reduceLT, Int.reduceLE, Int.reduceSub, Int.reduceAdd, Int.reduceToNat, reduceCtorEq, Int.reduceNeg, TF3, TF4, TF9, TF33, hlt, hn]
      (refine hK _ _ ?_; clear hK K)
      refine AWp.condF rfl (AWp.skip ?_)
      simp only [thenA, blockA, if_true]
      refine hK2 _ _ ?_
      clear hK2 K2
      (refine AWp.lastR [0, 1, 4, 5, 7, 8, 9, 16] [] (by decide +kernel) fun K hK => ?_; simp -implicitDefEqProofs only [EV, forall_const, implies_true, Nat.reduceAdd, Nat.reduceEqDiff, Nat.reduceBEq, Nat.reduceLeDiff, Nat.reduceSub, Nat.reduceMul, Int.reduceEq, Int.reduceLT, Int.reduceLE, Int.reduceSub, Int.reduceAdd, Int.reduceToNat, reduceCtorEq, Int.reduceNeg, TF3, TF4, TF9, TF33])
      refine ⟨by unfold InR; unfold lim at *; omega, ?_⟩
      (refine hK _ _ ?_; clear hK K; try simp only [thenA, blockA, if_true])
      exact ⟨j + 1, ⟨by omega, heq⟩, by omega, by simp [sle, vle, sget], (by simp [ble, bget, exC, tyC, foC, paC, siC, deC, prC])⟩
  · (refine AWp.seqR [0, 1, 4, 5, 7, 8, 9, 16] [] (by decide +kernel) fun K hK => ?_; simp -implicitDefEqProofs only [EV, forall_const, implies_true, Nat.reduceAdd, Nat.reduceEqDiff, Nat.reduceBEq, Nat.reduceLeDiff, Nat.reduceSub, Nat.reduceMul, Int.reduceEq, Int.reduceLT, Int.reduceLE, Int.reduceSub, Int.reduceAdd, Int.reduceToNat, reduceCtorEq, Int.reduceNeg, TF3, TF4, TF9, TF33, hlt]; refine hK _ _ ?_; clear hK K)
    refine AWp.seqK fun K2 hK2 => ?_
    refine AWp.condF rfl (AWp.exit ?_)
    simp only [thenA, blockA, if_true]
    rw [List.drop_eq_nil_of_le (by omega)] at heq
    exact fin _ _ heq.symm

/-! small types -/
def sm : Nat := 1000000
inductive Ty.Sm : Ty → Prop where
  | mk (n : Str) (a : List Ty) (p : Int) : n.length ≤ sm → a.length ≤ sm → (∀ t, t ∈ a → Ty.Sm t) → Ty.Sm (.mk n a p)
theorem Ty.Sm.name {t : Ty} (h : t.Sm) : t.name.length ≤ sm := by cases h; assumption
theorem Ty.Sm.len {t : Ty} (h : t.Sm) : t.args.length ≤ sm := by cases h; assumption
theorem Ty.Sm.arg {t : Ty} (h : t.Sm) : ∀ u, u ∈ t.args → u.Sm := by cases h; assumption

/-- all types, each as the call makes it -/
theorem ok_All (g : Ty → Ty) (vars : List Str) (args : List Ty) (l : List Ty) (hl : l.length ≤ sm) (hs : ∀ t, t ∈ l → CallOK Try.prog 65 [tyV t, strsV vars, tysV args] (tyV (g t))) :
    CallOK Try.prog 66 [tysV l, strsV vars, tysV args] (tysV (l.map g)) := by
  (refine CallOK.of_body Try.func66 rfl (by decide) (by rw [Try.ntmps66]; simp) ?_; rw [Try.ntmps66])
  (refine AWp.seqR [0, 1, 2, 6, 7, 9, 10, 11, 12, 13] [] (by decide +kernel) fun K hK => ?_; simp -implicitDefEqProofs only [EV, forall_const, implies_true, Nat.reduceAdd, Nat.reduceEqDiff, Nat.reduceBEq, Nat.reduceLeDiff, Nat.reduceSub, Nat.reduceMul, Int.reduceEq, Int.reduceLT, Int.reduceLE, Int.reduceSub, Int.reduceAdd, Int.reduceToNat, reduceCtorEq, Int.reduceNeg, TF3, TF4, TF9, TF23, TF25]; refine hK _ _ ?_; clear hK K)
  (refine AWp.seqR [0, 1, 2, 6, 7, 9, 10, 11, 12, 13] [] (by decide +kernel) fun K hK => ?_; simp -implicitDefEqProofs only [EV, forall_const, implies_true, Nat.reduceAdd, Nat.reduceEqDiff, Nat.reduceBEq, Nat.reduceLeDiff, Nat.reduceSub, Nat.reduceMul, Int.reduceEq, Int.reduceLT, Int.reduceLE, Int.reduceSub, Int.reduceAdd, Int.reduceToNat, reduceCtorEq, Int.reduceNeg, TF3, TF4, TF9, TF23, TF25]; refine hK _ _ ?_; clear hK K)
  refine AWp.promote 7 3 7 rfl ?_
  refine AWp.seqK fun K1 hK1 => ?_
  have fin : ∀ sl bx, sle sl [(7, .acc 7)] → ble bx [(7, .rows 3 (tyR (l.map g)))] → K1 sl bx := by
    intro sl bx h1 h2
    refine hK1 _ _ (AWp.weaken h1 h2 ?_)
    clear hK1 K1
    (refine AWp.seqR [0, 1, 2, 6, 7, 9, 10, 11, 12, 13] [] (by decide +kernel) fun K hK => ?_; simp -implicitDefEqProofs only [EV, forall_const, implies_true, Nat.reduceAdd, Nat.reduceEqDiff, Nat.reduceBEq, Nat.reduceLeDiff, Nat.reduceSub, Nat.reduceMul, Int.reduceEq, Int.reduceLT, Int.reduceLE, Int.reduceSub, Int.reduceAdd, Int.reduceToNat, reduceCtorEq, Int.reduceNeg, TF3, TF4, TF9, TF23, TF25]; refine hK _ _ ?_; clear hK K)
    exact AWp.ret ⟨_, by rw [Try.results66]; rfl, rfl⟩
  (refine AWp.seqR [0, 1, 2, 6, 7, 9, 10, 11, 12, 13] [] (by decide +kernel) fun K hK => ?_; simp -implicitDefEqProofs only [EV, forall_const, implies_true, Nat.reduceAdd, Nat.reduceEqDiff, Nat.reduceBEq, Nat.reduceLeDiff, Nat.reduceSub, Nat.reduceMul, Int.reduceEq, Int.reduceLT, Int.reduceLE, Int.reduceSub, Int.reduceAdd, Int.reduceToNat, reduceCtorEq, Int.reduceNeg, TF3, TF4, TF9, TF23, TF25]; refine hK _ _ ?_; clear hK K)
  refine AWp.block (AWp.loop (X := Nat) (fun x => [(12, intV x), (11, intV l.length), (10, tysV l), (1, strsV vars), (2, tysV args), (7, .acc 7)]) (fun x => [(7, .rows 3 (tyR ((l.take x).map g)))])
    (fun x => x ≤ l.length) (fun x => l.length - x) 0 ?_ ?_ ?_ ?_)
  · simp
  · exact (by simp [sle, vle, sget])
  · simp [ble, bget, tyR_nil]
  rintro j hj
  by_cases hlt : (j : Int) < (l.length : Int)
  · have hlt' : j < l.length := by omega
    have hy : l[j]? = some l[j] := List.getElem?_eq_getElem hlt'
    have hmem : l[j] ∈ l := List.getElem_mem hlt'
    have htake : l.take (j + 1) = l.take j ++ [l[j]] := List.take_succ_eq_append_getElem hlt'
    generalize l[j] = y at *
    (refine AWp.seqR [0, 1, 2, 6, 7, 9, 10, 11, 12, 13] [] (by decide +kernel) fun K hK => ?_; simp -implicitDefEqProofs only [EV, forall_const, implies_true, Nat.reduceAdd, Nat.reduceEqDiff, Nat.reduceBEq, Nat.reduceLeDiff, Nat.reduceSub, Nat.reduceMul, Int.reduceEq, Int.reduceLT, Int.reduceLE, Int.reduceSub, Int.reduceAdd, Int.reduceToNat, reduceCtorEq, Int.reduceNeg, TF3, TF4, TF9, TF23, TF25, hlt]; refine hK _ _ ?_; clear hK K)
    refine AWp.seqK fun K2 hK2 => ?_
    refine AWp.condT rfl (AWp.skip (hK2 _ _ ?_))
    clear hK2 K2
    refine AWp.seqK fun K2 hK2 => ?_
    refine AWp.block ?_
    (refine AWp.seqR [0, 1, 2, 6, 7, 9, 10, 11, 12, 13] [] (by decide +kernel) fun K hK => ?_; simp -implicitDefEqProofs only [EV, forall_const, implies_true, Nat.reduceAdd, Nat.reduceEqDiff, Nat.reduceBEq, Nat.reduceLeDiff, Nat.reduceSub, Nat.reduceMul, Int.reduceEq, Int.reduceLT, Int.reduceLE, Int.reduceSub, Int.reduceAdd, Int.reduceToNat, reduceCtorEq, Int.reduceNeg, TF3, TF4, TF9, TF23, TF25])
    refine ⟨by omega, tyC y, tyR_get hy, rfl, ?_⟩
    simp -implicitDefEqProofs only [EV, forall_const, implies_true, Nat.reduceAdd, Nat.reduceEqDiff, Nat.reduceBEq, Nat.reduceLeDiff, Nat.reduceSub, Nat.reduceMul, Int.reduceEq, Int.reduceLT, Int.reduceLE, Int.reduceSub, Int.reduceAdd, Int.reduceToNat, reduceCtorEq, Int.reduceNeg, TF3, TF4, TF9, TF23, TF25]
    (refine hK _ _ ?_; clear hK K)
    (refine AWp.lastR [0, 1, 2, 6, 7, 9, 10, 11, 12, 13] [] (by decide +kernel) fun K hK => ?_; simp -implicitDefEqProofs only [EV, forall_const, implies_true, Nat.reduceAdd, Nat.reduceEqDiff, Nat.reduceBEq, Nat.reduceLeDiff, Nat.reduceSub, Nat.reduceMul, Int.reduceEq, Int.reduceLT, Int.reduceLE, Int.reduceSub, Int.reduceAdd, Int.reduceToNat, reduceCtorEq, Int.reduceNeg, TF3, TF4, TF9, TF23, TF25])
    refine ⟨tyV (g y), .inl ⟨_, rfl, hs y hmem, rfl⟩, ?_⟩
    simp -implicitDefEqProofs only [EV, forall_const, implies_true, Nat.reduceAdd, Nat.reduceEqDiff, Nat.reduceBEq, Nat.reduceLeDiff, Nat.reduceSub, Nat.reduceMul, Int.reduceEq, Int.reduceLT, Int.reduceLE, Int.reduceSub, Int.reduceAdd, Int.reduceToNat, reduceCtorEq, Int.reduceNeg, TF3, TF4, TF9, TF23, TF25]
    refine ⟨by simp, by rw [List.length_map, List.length_take]; unfold lim sm at *; omega, ?_⟩
    (refine hK _ _ ?_; clear hK K; try simp only [thenA, blockA, if_true])
    refine hK2 _ _ ?_
    clear hK2 K2
    (refine AWp.lastR [0, 1, 2, 6, 7, 9, 10, 11, 12, 13] [] (by decide +kernel) fun K hK => ?_; simp -implicitDefEqProofs only [EV, forall_const, implies_true, Nat.reduceAdd, Nat.reduceEqDiff, Nat.reduceBEq, Nat.reduceLeDiff, Nat.reduceSub, Nat.reduceMul, Int.reduceEq, Int.reduceLT, Int.reduceLE, Int.reduceSub, Int.reduceAdd, Int.reduceToNat, reduceCtorEq, Int.reduceNeg, TF3, TF4, TF9, TF23, TF25])
    refine ⟨by unfold InR; unfold sm at *; omega, ?_⟩
    (refine hK _ _ ?_; clear hK K; try simp only [thenA, blockA, if_true])
    refine ⟨j + 1, by omega, by omega, by simp [sle, vle, sget], ?_⟩
    rw [htake]
    simp [ble, bget, tyR_map, tyC]
  · (refine AWp.seqR [0, 1, 2, 6, 7, 9, 10, 11, 12, 13] [] (by decide +kernel) fun K hK => ?_; simp -implicitDefEqProofs only [EV, forall_const, implies_true, Nat.reduceAdd, Nat.reduceEqDiff, Nat.reduceBEq, Nat.reduceLeDiff, Nat.reduceSub, Nat.reduceMul, Int.reduceEq, Int.reduceLT, Int.reduceLE, Int.reduceSub, Int.reduceAdd, Int.reduceToNat, reduceCtorEq, Int.reduceNeg, TF3, TF4, TF9, TF23, TF25, hlt]; refine hK _ _ ?_; clear hK K)
    refine AWp.seqK fun K2 hK2 => ?_
    refine AWp.condF rfl (AWp.exit ?_)
    simp only [thenA, blockA, if_true]
    rw [List.take_of_length_le (by omega)]
    exact fin _ _ (by simp [sle, vle, sget]) (by simp [ble, bget, exC, tyC, foC, paC, siC, deC, prC])

mutual
def Ty.subst (vars : List Str) (args : List Ty) : Ty → Ty
  | .mk n a p => if a.length = 0 ∧ 0 ≤ indexS n vars 0 ∧ indexS n vars 0 < args.length then .mk (args[(indexS n vars 0).toNat]?.getD default).name (args[(indexS n vars 0).toNat]?.getD default).args p else .mk n (Ty.substL vars args a) p
def Ty.substL (vars : List Str) (args : List Ty) : List Ty → List Ty
  | [] => []
  | t :: ts => t.subst vars args :: Ty.substL vars args ts
end
theorem substL_map (vars : List Str) (args : List Ty) : ∀ l, Ty.substL vars args l = l.map (Ty.subst vars args)
  | [] => by rw [Ty.substL]; rfl
  | t :: ts => by rw [Ty.substL, substL_map vars args ts]; rfl
theorem subst_eq (vars : List Str) (args : List Ty) (t : Ty) : t.subst vars args = if t.args.length = 0 ∧ 0 ≤ indexS t.name vars 0 ∧ indexS t.name vars 0 < args.length then .mk (args[(indexS t.name vars 0).toNat]?.getD default).name (args[(indexS t.name vars 0).toNat]?.getD default).args t.pos else .mk t.name (t.args.map (Ty.subst vars args)) t.pos := by
  cases t with
  | mk n a p => rw [Ty.subst, substL_map]; rfl
theorem subst_nil : ∀ t : Ty, t.subst [] [] = t := by
  intro t
  induction t using Ty.induct with
  | h t ih =>
  rw [subst_eq, if_neg (by simp [indexS]), List.map_congr_left ih]
  cases t; simp [Ty.name, Ty.args, Ty.pos]

theorem ok_SubstG (vars : List Str) (args : List Ty) (hC : ∀ (i : Nat) (u : Ty), args[i]? = some u → CallOK Try.prog 62 [tyV u] (tyV u)) : ∀ t : Ty, t.Sm → CallOK Try.prog 65 [tyV t, strsV vars, tysV args] (tyV (t.subst vars args)) := by
  intro t
  induction t using Ty.induct with
  | h t ih =>
  intro hsm
  refine CallB.bd (Enters.of Try.func65 rfl (by decide)) fun hbd => ?_
  have hv := (strs_ok hbd.2.1).1
  have ha := (tys_ok hbd.2.2.1).1
  have heqn := subst_eq vars args t
  have hall := ok_All (Ty.subst vars args) vars args t.args hsm.len (fun u hu => ih u hu (hsm.arg u hu))
  (refine CallOK.of_body Try.func65 rfl (by decide) (by rw [Try.ntmps65]; simp) ?_; rw [Try.ntmps65])
  (refine AWp.seqR [0, 1, 2, 3, 6, 7, 8, 26] [] (by decide +kernel) fun K hK => ?_; simp -implicitDefEqProofs only [EV, forall_const, implies_true, Nat.reduceAdd, Nat.reduceEqDiff, Nat.reduceBEq, Nat.reduceLeDiff, Nat.reduceSub, Nat.reduceMul, Int.reduceEq, Int.reduceLT, Int.reduceLE, Int.reduceSub, Int.reduceAdd, Int.reduceToNat, reduceCtorEq, Int.reduceNeg, TF3, TF4, TF9, TF23, TF25]; refine hK _ _ ?_; clear hK K)
  refine AWp.seqK fun K1 hK1 => ?_
  (refine AWp.seqR [0, 1, 2, 3, 6, 7, 8, 26] [] (by decide +kernel) fun K hK => ?_; simp -implicitDefEqProofs only [EV, forall_const, implies_true, Nat.reduceAdd, Nat.reduceEqDiff, Nat.reduceBEq, Nat.reduceLeDiff, Nat.reduceSub, Nat.reduceMul, Int.reduceEq, Int.reduceLT, Int.reduceLE, Int.reduceSub, Int.reduceAdd, Int.reduceToNat, reduceCtorEq, Int.reduceNeg, TF3, TF4, TF9, TF23, TF25])
  refine ⟨intV (indexS t.name vars 0), .inl ⟨_, rfl, ok_Index vars t.name, rfl⟩, ?_⟩
  simp -implicitDefEqProofs only [EV, forall_const, implies_true, Nat.reduceAdd, Nat.reduceEqDiff, Nat.reduceBEq, Nat.reduceLeDiff, Nat.reduceSub, Nat.reduceMul, Int.reduceEq, Int.reduceLT, Int.reduceLE, Int.reduceSub, Int.reduceAdd, Int.reduceToNat, reduceCtorEq, Int.reduceNeg, TF3, TF4, TF9, TF23, TF25]
  (refine hK _ _ ?_; clear hK K)
  generalize indexS t.name vars 0 = i at *
  have fin : (t.args.length = 0 ∧ 0 ≤ i ∧ i < args.length) = False → ∀ sl bx, sle sl [(1, strsV vars), (2, tysV args), (3, .box 3 0), (6, .box 6 0)] → ble bx [(3, .cells ((tyC t).map .d)), (6, .cells [.d (.str []), .d .nil, .d (.int .i64 0)])] → K1 sl bx := by
    intro hc sl bx h1 h2
    refine hK1 _ _ (AWp.weaken h1 h2 ?_)
    clear hK1 K1
    rw [if_neg (by rw [hc]; exact id)] at heqn
    (refine AWp.seqR [0, 1, 2, 3, 6, 7, 8, 26] [] (by decide +kernel) fun K hK => ?_; simp -implicitDefEqProofs only [EV, forall_const, implies_true, Nat.reduceAdd, Nat.reduceEqDiff, Nat.reduceBEq, Nat.reduceLeDiff, Nat.reduceSub, Nat.reduceMul, Int.reduceEq, Int.reduceLT, Int.reduceLE, Int.reduceSub, Int.reduceAdd, Int.reduceToNat, reduceCtorEq, Int.reduceNeg, TF3, TF4, TF9, TF23, TF25])
    refine ⟨tysV (t.args.map (Ty.subst vars args)), .inl ⟨_, rfl, hall, rfl⟩, ?_⟩
    simp -implicitDefEqProofs only [EV, forall_const, implies_true, Nat.reduceAdd, Nat.reduceEqDiff, Nat.reduceBEq, Nat.reduceLeDiff, Nat.reduceSub, Nat.reduceMul, Int.reduceEq, Int.reduceLT, Int.reduceLE, Int.reduceSub, Int.reduceAdd, Int.reduceToNat, reduceCtorEq, Int.reduceNeg, TF3, TF4, TF9, TF23, TF25]
    (refine hK _ _ ?_; clear hK K)
    (refine AWp.seqR [0, 1, 2, 3, 6, 7, 8, 26] [] (by decide +kernel) fun K hK => ?_; simp -implicitDefEqProofs only [EV, forall_const, implies_true, Nat.reduceAdd, Nat.reduceEqDiff, Nat.reduceBEq, Nat.reduceLeDiff, Nat.reduceSub, Nat.reduceMul, Int.reduceEq, Int.reduceLT, Int.reduceLE, Int.reduceSub, Int.reduceAdd, Int.reduceToNat, reduceCtorEq, Int.reduceNeg, TF3, TF4, TF9, TF23, TF25]; refine hK _ _ ?_; clear hK K)
    rw [heqn]
    exact AWp.ret ⟨_, by rw [Try.results65]; rfl, rfl⟩
  by_cases h1 : (t.args.length : Int) = 0
  · by_cases h2 : 0 ≤ i
    · by_cases h3 : i < (args.length : Int)
      · rw [if_pos ⟨by omega, h2, h3⟩] at heqn
        have hx : args[i.toNat]? = some args[i.toNat] := List.getElem?_eq_getElem (by omega)
        rw [hx, Option.getD_some] at heqn
        generalize args[i.toNat] = u at *
        (refine AWp.seqR [0, 1, 2, 3, 6, 7, 8, 26] [] (by decide +kernel) fun K hK => ?_; simp -implicitDefEqProofs only [EV, forall_const, implies_true, Nat.reduceAdd, Nat.reduceEqDiff, Nat.reduceBEq, Nat.reduceLeDiff, Nat.reduceSub, Nat.reduceMul, Int.reduceEq, Int.reduceLT, Int.reduceLE, Int.reduceSub, Int.reduceAdd, Int.reduceToNat, reduceCtorEq, Int.reduceNeg, TF3, TF4, TF9, TF23, TF25, h1, h2, h3, ge_iff_le]; refine hK _ _ ?_; clear hK K)
        refine AWp.condT rfl ?_
        (refine AWp.seqR [0, 1, 2, 3, 6, 7, 8, 26] [] (by decide +kernel) fun K hK => ?_; simp -implicitDefEqProofs only [EV, forall_const, implies_true, Nat.reduceAdd, Nat.reduceEqDiff, Nat.reduceBEq, Nat.reduceLeDiff, Nat.reduceSub, Nat.reduceMul, Int.reduceEq, Int.reduceLT, Int.reduceLE, Int.reduceSub, Int.reduceAdd, Int.reduceToNat, reduceCtorEq, Int.reduceNeg, TF3, TF4, TF9, TF23, TF25])
        refine ⟨h2, tyC u, tyR_get hx, rfl, ?_⟩
        simp -implicitDefEqProofs only [EV, forall_const, implies_true, Nat.reduceAdd, Nat.reduceEqDiff, Nat.reduceBEq, Nat.reduceLeDiff, Nat.reduceSub, Nat.reduceMul, Int.reduceEq, Int.reduceLT, Int.reduceLE, Int.reduceSub, Int.reduceAdd, Int.reduceToNat, reduceCtorEq, Int.reduceNeg, TF3, TF4, TF9, TF23, TF25]
        refine ⟨tyV u, .inl ⟨_, rfl, hC _ u hx, rfl⟩, ?_⟩
        simp -implicitDefEqProofs only [EV, forall_const, implies_true, Nat.reduceAdd, Nat.reduceEqDiff, Nat.reduceBEq, Nat.reduceLeDiff, Nat.reduceSub, Nat.reduceMul, Int.reduceEq, Int.reduceLT, Int.reduceLE, Int.reduceSub, Int.reduceAdd, Int.reduceToNat, reduceCtorEq, Int.reduceNeg, TF3, TF4, TF9, TF23, TF25]
        (refine hK _ _ ?_; clear hK K)
        (refine AWp.seqR [0, 1, 2, 3, 6, 7, 8, 26] [] (by decide +kernel) fun K hK => ?_; simp -implicitDefEqProofs only [EV, forall_const, implies_true, Nat.reduceAdd, Nat.reduceEqDiff, Nat.reduceBEq, Nat.reduceLeDiff, Nat.reduceSub, Nat.reduceMul, Int.reduceEq, Int.reduceLT, Int.reduceLE, Int.reduceSub, Int.reduceAdd, Int.reduceToNat, reduceCtorEq, Int.reduceNeg, TF3, TF4, TF9, TF23, TF25]; refine hK _ _ ?_; clear hK K)
        (refine AWp.seqR [0, 1, 2, 3, 6, 7, 8, 26] [] (by decide +kernel) fun K hK => ?_; simp -implicitDefEqProofs only [EV, forall_const, implies_true, Nat.reduceAdd, Nat.reduceEqDiff, Nat.reduceBEq, Nat.reduceLeDiff, Nat.reduceSub, Nat.reduceMul, Int.reduceEq, Int.reduceLT, Int.reduceLE, Int.reduceSub, Int.reduceAdd, Int.reduceToNat, reduceCtorEq, Int.reduceNeg, TF3, TF4, TF9, TF23, TF25]; refine hK _ _ ?_; clear hK K)
        rw [heqn]
        exact AWp.ret ⟨_, by rw [Try.results65]; rfl, rfl⟩
      · (refine AWp.seqR [0, 1, 2, 3, 6, 7, 8, 26] [] (by decide +kernel) fun K hK => ?_; simp -implicitDefEqProofs only [EV, forall_const, implies_true, Nat.reduceAdd, Nat.reduceEqDiff, Nat.reduceBEq, Nat.reduceLeDiff, Nat.reduceSub, Nat.reduceMul, Int.reduceEq, Int.reduceLT, Int.reduceLE, Int.reduceSub, Int.reduceAdd, Int.reduceToNat, reduceCtorEq, Int.reduceNeg, TF3, TF4, TF9, TF23, TF25, h1, h2, h3, ge_iff_le]; refine hK _ _ ?_; clear hK K)
        refine AWp.condF rfl (AWp.skip ?_)
        exact fin (by simp [h3]) _ _ (by simp [sle, vle, sget]) (by simp [ble, bget, exC, tyC, foC, paC, siC, deC, prC])
    · (refine AWp.seqR [0, 1, 2, 3, 6, 7, 8, 26] [] (by decide +kernel) fun K hK => ?_; simp -implicitDefEqProofs only [EV, forall_const, implies_true, Nat.reduceAdd, Nat.reduceEqDiff, Nat.reduceBEq, Nat.reduceLeDiff, Nat.reduceSub, Nat.reduceMul, Int.reduceEq, Int.reduceLT, Int.reduceLE, Int.reduceSub, Int.reduceAdd, Int.reduceToNat, reduceCtorEq, Int.reduceNeg, TF3, TF4, TF9, TF23, TF25, h1, h2, ge_iff_le]; refine hK _ _ ?_; clear hK K)
      refine AWp.condF rfl (AWp.skip ?_)
      exact fin (by simp [h2]) _ _ (by simp [sle, vle, sget]) (by simp [ble, bget, exC, tyC, foC, paC, siC, deC, prC])
  · (refine AWp.seqR [0, 1, 2, 3, 6, 7, 8, 26] [] (by decide +kernel) fun K hK => ?_; simp -implicitDefEqProofs only [EV, forall_const, implies_true, Nat.reduceAdd, Nat.reduceEqDiff, Nat.reduceBEq, Nat.reduceLeDiff, Nat.reduceSub, Nat.reduceMul, Int.reduceEq, Int.reduceLT, Int.reduceLE, Int.reduceSub, Int.reduceAdd, Int.reduceToNat, reduceCtorEq, Int.reduceNeg, TF3, TF4, TF9, TF23, TF25, h1, ge_iff_le]; refine hK _ _ ?_; clear hK K)
    refine AWp.condF rfl (AWp.skip ?_)
    exact fin (by simp only [eq_iff_iff, iff_false]; omega) _ _ (by simp [sle, vle, sget]) (by simp [ble, bget, exC, tyC, foC, paC, siC, deC, prC])
theorem ok_Clone (t : Ty) (h : t.Sm) : CallOK Try.prog 62 [tyV t] (tyV t) := by
  (refine CallOK.of_body Try.func62 rfl (by decide) (by rw [Try.ntmps62]; simp) ?_; rw [Try.ntmps62])
  (refine AWp.seqR [0, 1, 2] [] (by decide +kernel) fun K hK => ?_; simp -implicitDefEqProofs only [EV, forall_const, implies_true, Nat.reduceAdd, Nat.reduceEqDiff, Nat.reduceBEq, Nat.reduceLeDiff, Nat.reduceSub, Nat.reduceMul, Int.reduceEq, Int.reduceLT, Int.reduceLE, Int.reduceSub, Int.reduceAdd, Int.reduceToNat, reduceCtorEq, Int.reduceNeg, TF3, TF4, TF9, TF25]; refine hK _ _ ?_; clear hK K)
  (refine AWp.seqR [0, 1, 2] [] (by decide +kernel) fun K hK => ?_; simp -implicitDefEqProofs only [EV, forall_const, implies_true, Nat.reduceAdd, Nat.reduceEqDiff, Nat.reduceBEq, Nat.reduceLeDiff, Nat.reduceSub, Nat.reduceMul, Int.reduceEq, Int.reduceLT, Int.reduceLE, Int.reduceSub, Int.reduceAdd, Int.reduceToNat, reduceCtorEq, Int.reduceNeg, TF3, TF4, TF9, TF25])
  have hs := ok_SubstG [] [] (by simp) t h
  rw [subst_nil] at hs
  refine ⟨tyV t, .inl ⟨_, rfl, hs, rfl⟩, ?_⟩
  simp -implicitDefEqProofs only [EV, forall_const, implies_true, Nat.reduceAdd, Nat.reduceEqDiff, Nat.reduceBEq, Nat.reduceLeDiff, Nat.reduceSub, Nat.reduceMul, Int.reduceEq, Int.reduceLT, Int.reduceLE, Int.reduceSub, Int.reduceAdd, Int.reduceToNat, reduceCtorEq, Int.reduceNeg, TF3, TF4, TF9, TF25]
  (refine hK _ _ ?_; clear hK K)
  exact AWp.ret ⟨_, by rw [Try.results62]; rfl, rfl⟩
theorem ok_Subst (vars : List Str) (args : List Ty) (ha : ∀ u, u ∈ args → u.Sm) (t : Ty) (h : t.Sm) : CallOK Try.prog 65 [tyV t, strsV vars, tysV args] (tyV (t.subst vars args)) :=
  ok_SubstG vars args (fun i u hu => ok_Clone u (ha u (List.mem_iff_getElem?.2 ⟨i, hu⟩))) t h
end Go.Abs
