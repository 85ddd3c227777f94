/- slices.Equal, BinarySearch and what they call -/
import Derived.Test.YtibfepggadjjgaaF16
namespace Go.Abs
set_option linter.unusedSimpArgs false
set_option linter.unusedVariables false
open Go Go.Proofs
set_option maxRecDepth 100000
set_option maxHeartbeats 1000000

theorem ok_isNaN1 (s : Str) : CallOK Try.prog 49 [strV s] (boolV false) := by
  (refine CallOK.of_body Try.func49 rfl (by decide) (by rw [Try.ntmps49]; simp) ?_; rw [Try.ntmps49])
  (refine AWp.seqR [0, 2] [] (by decide +kernel) fun K hK => ?_; simp -implicitDefEqProofs only [EV, forall_const, implies_true, Nat.reduceAdd, Nat.reduceEqDiff, Nat.reduceBEq, Nat.reduceLeDiff, Nat.reduceSub, Nat.reduceMul, Int.reduceEq, Int.reduceLT, Int.reduceLE, Int.reduceSub, Int.reduceAdd, Int.reduceToNat, reduceCtorEq, Int.reduceNeg, TF3, TF4, TF9]; refine hK _ _ ?_; clear hK K)
  (refine AWp.seqR [0, 2] [] (by decide +kernel) fun K hK => ?_; simp -implicitDefEqProofs only [EV, forall_const, implies_true, Nat.reduceAdd, Nat.reduceEqDiff, Nat.reduceBEq, Nat.reduceLeDiff, Nat.reduceSub, Nat.reduceMul, Int.reduceEq, Int.reduceLT, Int.reduceLE, Int.reduceSub, Int.reduceAdd, Int.reduceToNat, reduceCtorEq, Int.reduceNeg, TF3, TF4, TF9]; refine hK _ _ ?_; clear hK K)
  exact AWp.ret ⟨_, by rw [Try.results49]; rfl, rfl⟩
theorem ok_isNaN2 (s : Str) : CallOK Try.prog 40 [strV s] (boolV false) := by
  (refine CallOK.of_body Try.func40 rfl (by decide) (by rw [Try.ntmps40]; simp) ?_; rw [Try.ntmps40])
  (refine AWp.seqR [0, 2] [] (by decide +kernel) fun K hK => ?_; simp -implicitDefEqProofs only [EV, forall_const, implies_true, Nat.reduceAdd, Nat.reduceEqDiff, Nat.reduceBEq, Nat.reduceLeDiff, Nat.reduceSub, Nat.reduceMul, Int.reduceEq, Int.reduceLT, Int.reduceLE, Int.reduceSub, Int.reduceAdd, Int.reduceToNat, reduceCtorEq, Int.reduceNeg, TF3, TF4, TF9]; refine hK _ _ ?_; clear hK K)
  (refine AWp.seqR [0, 2] [] (by decide +kernel) fun K hK => ?_; simp -implicitDefEqProofs only [EV, forall_const, implies_true, Nat.reduceAdd, Nat.reduceEqDiff, Nat.reduceBEq, Nat.reduceLeDiff, Nat.reduceSub, Nat.reduceMul, Int.reduceEq, Int.reduceLT, Int.reduceLE, Int.reduceSub, Int.reduceAdd, Int.reduceToNat, reduceCtorEq, Int.reduceNeg, TF3, TF4, TF9]; refine hK _ _ ?_; clear hK K)
  exact AWp.ret ⟨_, by rw [Try.results40]; rfl, rfl⟩
theorem ok_Less (a b : Str) : CallOK Try.prog 39 [strV a, strV b] (boolV (Op.bytesLess a b)) := by
  (refine CallOK.of_body Try.func39 rfl (by decide) (by rw [Try.ntmps39]; simp) ?_; rw [Try.ntmps39])
  (refine AWp.seqR [0, 1, 4] [] (by decide +kernel) fun K hK => ?_; simp -implicitDefEqProofs only [EV, forall_const, implies_true, Nat.reduceAdd, Nat.reduceEqDiff, Nat.reduceBEq, Nat.reduceLeDiff, Nat.reduceSub, Nat.reduceMul, Int.reduceEq, Int.reduceLT, Int.reduceLE, Int.reduceSub, Int.reduceAdd, Int.reduceToNat, reduceCtorEq, Int.reduceNeg, TF3, TF4, TF9]; refine hK _ _ ?_; clear hK K)
  (refine AWp.seqR [0, 1, 4] [] (by decide +kernel) fun K hK => ?_; simp -implicitDefEqProofs only [EV, forall_const, implies_true, Nat.reduceAdd, Nat.reduceEqDiff, Nat.reduceBEq, Nat.reduceLeDiff, Nat.reduceSub, Nat.reduceMul, Int.reduceEq, Int.reduceLT, Int.reduceLE, Int.reduceSub, Int.reduceAdd, Int.reduceToNat, reduceCtorEq, Int.reduceNeg, TF3, TF4, TF9]; refine ⟨_, .inl ⟨_, rfl, ok_isNaN1 a, rfl⟩, ?_⟩; (try simp -implicitDefEqProofs only [EV, forall_const, implies_true, Nat.reduceAdd, Nat.reduceEqDiff, Nat.reduceBEq, Nat.reduceLeDiff, Nat.reduceSub, Nat.reduceMul, Int.reduceEq, Int.reduceLT, Int.reduceLE, Int.reduceSub, Int.reduceAdd, Int.reduceToNat, reduceCtorEq, Int.reduceNeg, TF3, TF4, TF9]); refine hK _ _ ?_; clear hK K)
  exact AWp.ret ⟨_, by rw [Try.results39]; rfl, rfl⟩

theorem ok_Equal (a b : List Str) : CallOK Try.prog 10 [strsV a, strsV b] (boolV (decide (a = b))) := by
  refine CallB.bd (Enters.of Try.func10 rfl (by decide)) fun hbd => ?_
  have hla := (strs_ok hbd.1).1
  have hlb := (strs_ok hbd.2.1).1
  (refine CallOK.of_body Try.func10 rfl (by decide) (by rw [Try.ntmps10]; simp) ?_; rw [Try.ntmps10])
  (refine AWp.seqR [0, 1, 4, 5, 10, 12, 13, 14, 24] [] (by decide +kernel) fun K hK => ?_; simp -implicitDefEqProofs only [EV, forall_const, implies_true, Nat.reduceAdd, Nat.reduceEqDiff, Nat.reduceBEq, Nat.reduceLeDiff, Nat.reduceSub, Nat.reduceMul, Int.reduceEq, Int.reduceLT, Int.reduceLE, Int.reduceSub, Int.reduceAdd, Int.reduceToNat, reduceCtorEq, Int.reduceNeg, TF3, TF4, TF9, TF33]; refine hK _ _ ?_; clear hK K)
  refine AWp.seqK fun K1 hK1 => ?_
  (refine AWp.seqR [0, 1, 4, 5, 10, 12, 13, 14, 24] [] (by decide +kernel) fun K hK => ?_; simp -implicitDefEqProofs only [EV, forall_const, implies_true, Nat.reduceAdd, Nat.reduceEqDiff, Nat.reduceBEq, Nat.reduceLeDiff, Nat.reduceSub, Nat.reduceMul, Int.reduceEq, Int.reduceLT, Int.reduceLE, Int.reduceSub, Int.reduceAdd, Int.reduceToNat, reduceCtorEq, Int.reduceNeg, TF3, TF4, TF9, TF33]; refine hK _ _ ?_; clear hK K)
  refine AWp.ifRetK rfl hK1 (fun hc => ?_) (fun hc => ?_)
  · have hn : ¬ a = b := by rintro rfl; simp at hc
    (refine AWp.seqR [0, 1, 4, 5, 10, 12, 13, 14, 24] [] (by decide +kernel) fun K hK => ?_; simp -implicitDefEqProofs only [EV, forall_const, implies_true, Nat.reduceAdd, Nat.reduceEqDiff, Nat.reduceBEq, Nat.reduceLeDiff, Nat.reduceSub, Nat.reduceMul, Int.reduceEq, Int.reduceLT, Int.reduceLE, Int.reduceSub, Int.reduceAdd, Int.reduceToNat, reduceCtorEq, Int.reduceNeg, TF3, TF4, TF9, TF33]; refine hK _ _ ?_; clear hK K)
    rw [decide_eq_false hn]
    exact AWp.ret ⟨_, by rw [Try.results10]; rfl, rfl⟩
  have hl : a.length = b.length := by simp at hc; omega
  clear hK1 K1
  refine AWp.seqK fun K1 hK1 => ?_
  (refine AWp.seqR [0, 1, 4, 5, 10, 12, 13, 14, 24] [] (by decide +kernel) fun K hK => ?_; simp -implicitDefEqProofs only [EV, forall_const, implies_true, Nat.reduceAdd, Nat.reduceEqDiff, Nat.reduceBEq, Nat.reduceLeDiff, Nat.reduceSub, Nat.reduceMul, Int.reduceEq, Int.reduceLT, Int.reduceLE, Int.reduceSub, Int.reduceAdd, Int.reduceToNat, reduceCtorEq, Int.reduceNeg, TF3, TF4, TF9, TF33]; refine hK _ _ ?_; clear hK K)
  refine AWp.block (AWp.forIdx a (X := Unit) (fun j _ => [(0, strsV a), (1, strsV b), (12, intV a.length), (13, intV j)]) (fun _ _ => []) (fun j _ => a.take j = b.take j) () (by simp) (by simp [sle, vle, sget]) (by simp [ble, bget, exC, tyC, foC, paC, siC, deC, prC]) ?_ ?_)
  · intro _ hI
    rw [List.take_length, hl, List.take_length] at hI
    (refine AWp.seqR [0, 1, 4, 5, 10, 12, 13, 14, 24] [] (by decide +kernel) fun K hK => ?_; simp -implicitDefEqProofs only [EV, forall_const, implies_true, Nat.reduceAdd, Nat.reduceEqDiff, Nat.reduceBEq, Nat.reduceLeDiff, Nat.reduceSub, Nat.reduceMul, Int.reduceEq, Int.reduceLT, Int.reduceLE, Int.reduceSub, Int.reduceAdd, Int.reduceToNat, reduceCtorEq, Int.reduceNeg, TF3, TF4, TF9, TF33, Int.lt_irrefl]; refine hK _ _ ?_; clear hK K)
    refine AWp.stop rfl ?_
    simp only [thenA, blockA, if_true]
    refine hK1 _ _ ?_
    (refine AWp.seqR [0, 1, 4, 5, 10, 12, 13, 14, 24] [] (by decide +kernel) fun K hK => ?_; simp -implicitDefEqProofs only [EV, forall_const, implies_true, Nat.reduceAdd, Nat.reduceEqDiff, Nat.reduceBEq, Nat.reduceLeDiff, Nat.reduceSub, Nat.reduceMul, Int.reduceEq, Int.reduceLT, Int.reduceLE, Int.reduceSub, Int.reduceAdd, Int.reduceToNat, reduceCtorEq, Int.reduceNeg, TF3, TF4, TF9, TF33]; refine hK _ _ ?_; clear hK K)
    rw [decide_eq_true hI]
    exact AWp.ret ⟨_, by rw [Try.results10]; rfl, rfl⟩
  · intro j _ x hx hmem _ htake hlt hI
    have hy : b[j]? = some b[j] := List.getElem?_eq_getElem (by omega)
    have htb : b.take (j + 1) = b.take j ++ [b[j]] := List.take_succ_eq_append_getElem (by omega)
    generalize b[j] = y at *
    (refine AWp.seqR [0, 1, 4, 5, 10, 12, 13, 14, 24] [] (by decide +kernel) fun K hK => ?_; simp -implicitDefEqProofs only [EV, forall_const, implies_true, Nat.reduceAdd, Nat.reduceEqDiff, Nat.reduceBEq, Nat.reduceLeDiff, Nat.reduceSub, Nat.reduceMul, Int.reduceEq, Int.reduceLT, Int.reduceLE, Int.reduceSub, Int.reduceAdd, Int.reduceToNat, reduceCtorEq, Int.reduceNeg, TF3, TF4, TF9, TF33, hlt]; refine hK _ _ ?_; clear hK K)
    refine AWp.goOn rfl ?_
    refine AWp.seqK fun K2 hK2 => ?_
    refine AWp.block ?_
    (refine AWp.seqR [0, 1, 4, 5, 10, 12, 13, 14, 24] [] (by decide +kernel) fun K hK => ?_; simp -implicitDefEqProofs only [EV, forall_const, implies_true, Nat.reduceAdd, Nat.reduceEqDiff, Nat.reduceBEq, Nat.reduceLeDiff, Nat.reduceSub, Nat.reduceMul, Int.reduceEq, Int.reduceLT, Int.reduceLE, Int.reduceSub, Int.reduceAdd, Int.reduceToNat, reduceCtorEq, Int.reduceNeg, TF3, TF4, TF9, TF33]; refine hK _ _ ?_; clear hK K)
    (refine AWp.seqD [0, 1, 4, 5, 10, 12, 13, 14, 24] [] 9 mixed (by decide +kernel) (by decide +kernel) fun K hK => ?_; simp -implicitDefEqProofs only [EV, forall_const, implies_true, Nat.reduceAdd, Nat.reduceEqDiff, Nat.reduceBEq, Nat.reduceLeDiff, Nat.reduceSub, Nat.reduceMul, Int.reduceEq, Int.reduceLT, Int.reduceLE, Int.reduceSub, Int.reduceAdd, Int.reduceToNat, reduceCtorEq, Int.reduceNeg, TF3, TF4, TF9, TF33]; refine ⟨by omega, _, strR_get hx, rfl, ?_⟩; (try simp -implicitDefEqProofs only [EV, forall_const, implies_true, Nat.reduceAdd, Nat.reduceEqDiff, Nat.reduceBEq, Nat.reduceLeDiff, Nat.reduceSub, Nat.reduceMul, Int.reduceEq, Int.reduceLT, Int.reduceLE, Int.reduceSub, Int.reduceAdd, Int.reduceToNat, reduceCtorEq, Int.reduceNeg, TF3, TF4, TF9, TF33]); refine ⟨by omega, _, strR_get hy, rfl, ?_⟩; (try simp -implicitDefEqProofs only [EV, forall_const, implies_true, Nat.reduceAdd, Nat.reduceEqDiff, Nat.reduceBEq, Nat.reduceLeDiff, Nat.reduceSub, Nat.reduceMul, Int.reduceEq, Int.reduceLT, Int.reduceLE, Int.reduceSub, Int.reduceAdd, Int.reduceToNat, reduceCtorEq, Int.reduceNeg, TF3, TF4, TF9, TF33]); refine hK _ _ ?_; clear hK K)
    refine AWp.cond rfl (fun hc => ?_) (fun hc => ?_)
    · have hn : ¬ a = b := by
        rintro rfl
        rw [hx] at hy
        simp only [Option.some.injEq] at hy
        subst hy
        simp at hc
      (refine AWp.seqR [0, 1, 4, 5, 10, 12, 13, 14, 24] [] (by decide +kernel) fun K hK => ?_; simp -implicitDefEqProofs only [EV, forall_const, implies_true, Nat.reduceAdd, Nat.reduceEqDiff, Nat.reduceBEq, Nat.reduceLeDiff, Nat.reduceSub, Nat.reduceMul, Int.reduceEq, Int.reduceLT, Int.reduceLE, Int.reduceSub, Int.reduceAdd, Int.reduceToNat, reduceCtorEq, Int.reduceNeg, TF3, TF4, TF9, TF33]; refine hK _ _ ?_; clear hK K)
      rw [decide_eq_false hn]
      exact AWp.ret ⟨_, by rw [Try.results10]; rfl, rfl⟩
    · refine AWp.skip ?_
      simp only [thenA, blockA, if_true]
      refine hK2 _ _ ?_
      clear hK2 K2
      (refine AWp.lastR [0, 1, 4, 5, 10, 12, 13, 14, 24] [] (by decide +kernel) fun K hK => ?_; simp -implicitDefEqProofs only [EV, forall_const, implies_true, Nat.reduceAdd, Nat.reduceEqDiff, Nat.reduceBEq, Nat.reduceLeDiff, Nat.reduceSub, Nat.reduceMul, Int.reduceEq, Int.reduceLT, Int.reduceLE, Int.reduceSub, Int.reduceAdd, Int.reduceToNat, reduceCtorEq, Int.reduceNeg, TF3, TF4, TF9, TF33]; refine ⟨by first | (unfold InR; omega) | (simp only [InR, sm, lim] at *; omega), ?_⟩; (try simp -implicitDefEqProofs only [EV, forall_const, implies_true, Nat.reduceAdd, Nat.reduceEqDiff, Nat.reduceBEq, Nat.reduceLeDiff, Nat.reduceSub, Nat.reduceMul, Int.reduceEq, Int.reduceLT, Int.reduceLE, Int.reduceSub, Int.reduceAdd, Int.reduceToNat, reduceCtorEq, Int.reduceNeg, TF3, TF4, TF9, TF33]); refine hK _ _ ?_; clear hK K; try simp only [thenA, blockA, if_true])
      exact ⟨(), by rw [htake, htb, hI, show x = y by simpa using hc], (by simp [sle, vle, sget]), (by simp [ble, bget, exC, tyC, foC, paC, siC, deC, prC])⟩

theorem bl_lt : ∀ {a b : Str}, Op.bytesLess a b = true ↔ a < b
  | [], [] => by simp [Op.bytesLess]
  | [], _ :: _ => by simp [Op.bytesLess]
  | _ :: _, [] => by simp [Op.bytesLess]
  | x :: a, y :: b => by
    have ih := bl_lt (a := a) (b := b)
    simp only [Op.bytesLess, Bool.or_eq_true, Bool.and_eq_true, decide_eq_true_eq, beq_iff_eq, ih, List.cons_lt_cons_iff]
theorem lt_tr {a b c : Str} (h : a < b) (k : b < c) : a < c := List.lt_trans h k
theorem lt_irr (a : Str) : ¬ a < a := List.lt_irrefl a
theorem lt_tot {a b : Str} (h : ¬ a < b) (k : ¬ b < a) : a = b := List.le_antisymm (List.not_lt.1 k) (List.not_lt.1 h)
/-- ascending, without repeats -/
def Asc (l : List Str) : Prop := l.Pairwise fun a b => a < b
theorem Asc.get {l : List Str} (h : Asc l) {i j : Nat} {a b : Str} (ha : l[i]? = some a) (hb : l[j]? = some b) (hij : i < j) : a < b := by
  obtain ⟨h1, rfl⟩ := List.getElem?_eq_some_iff.1 ha
  obtain ⟨h2, rfl⟩ := List.getElem?_eq_some_iff.1 hb
  exact List.pairwise_iff_getElem.1 h i j h1 h2 hij
def cntLt (s : Str) (l : List Str) : Nat := (l.takeWhile fun x => decide (x < s)).length
theorem cntLt_is (s : Str) : ∀ (l : List Str) (i : Nat), i ≤ l.length → (∀ k x, k < i → l[k]? = some x → x < s) → (∀ x, l[i]? = some x → ¬ x < s) → cntLt s l = i
  | [], i, h, _, _ => by simp at h; subst h; rfl
  | y :: l, 0, _, _, h2 => by simp [cntLt, h2 y rfl]
  | y :: l, i + 1, h, h1, h2 => by
    have := cntLt_is s l i (by simpa using h) (fun k x hk hx => h1 (k + 1) x (by omega) (by simpa using hx)) (fun x hx => h2 x (by simpa using hx))
    have hy : y < s := h1 0 y (by omega) rfl
    unfold cntLt at *
    simp [hy, this]
theorem mid_u {m n : Nat} (h : m + n < 281474976710656) : IntKind.i64.wrap ((IntKind.u64.wrap ((m : Int) + n)).fdiv (2 ^ min 1 IntKind.u64.bits)) = (((m + n) / 2 : Nat) : Int) := by
  have h1 : IntKind.u64.wrap ((m : Int) + n) = ((m + n : Nat) : Int) := by
    unfold IntKind.wrap
    simp [IntKind.signed, IntKind.bits]
    omega
  rw [h1]
  have h2 : (2 : Int) ^ min 1 IntKind.u64.bits = 2 := by decide
  rw [h2]
  have h3 : (((m + n : Nat) : Int)).fdiv 2 = (((m + n) / 2 : Nat) : Int) := by
    rw [Int.fdiv_eq_ediv_of_nonneg _ (by omega)]; rfl
  rw [h3]
  exact wrap_i64 (by first | (unfold InR; omega) | (simp only [InR, sm, lim] at *; omega))

theorem ok_BS (l : List Str) (s : Str) (ha : Asc l) : CallOK Try.prog 26 [strsV l, strV s] (.tuple [intV (cntLt s l), boolV (decide (s ∈ l))]) := by
  refine CallB.bd (Enters.of Try.func26 rfl (by decide)) fun hbd => ?_
  have hl := (strs_ok hbd.1).1
  (refine CallOK.of_body Try.func26 rfl (by decide) (by rw [Try.ntmps26]; simp) ?_; rw [Try.ntmps26])
  (refine AWp.seqR [0, 1, 4, 5, 6, 7, 8, 9, 15, 27] [] (by decide +kernel) fun K hK => ?_; simp -implicitDefEqProofs only [EV, forall_const, implies_true, Nat.reduceAdd, Nat.reduceEqDiff, Nat.reduceBEq, Nat.reduceLeDiff, Nat.reduceSub, Nat.reduceMul, Int.reduceEq, Int.reduceLT, Int.reduceLE, Int.reduceSub, Int.reduceAdd, Int.reduceToNat, reduceCtorEq, Int.reduceNeg, TF3, TF4, TF9, TF33, TF84]; refine hK _ _ ?_; clear hK K)
  (refine AWp.seqR [0, 1, 4, 5, 6, 7, 8, 9, 15, 27] [] (by decide +kernel) fun K hK => ?_; simp -implicitDefEqProofs only [EV, forall_const, implies_true, Nat.reduceAdd, Nat.reduceEqDiff, Nat.reduceBEq, Nat.reduceLeDiff, Nat.reduceSub, Nat.reduceMul, Int.reduceEq, Int.reduceLT, Int.reduceLE, Int.reduceSub, Int.reduceAdd, Int.reduceToNat, reduceCtorEq, Int.reduceNeg, TF3, TF4, TF9, TF33, TF84]; refine hK _ _ ?_; clear hK K)
  (refine AWp.seqR [0, 1, 4, 5, 6, 7, 8, 9, 15, 27] [] (by decide +kernel) fun K hK => ?_; simp -implicitDefEqProofs only [EV, forall_const, implies_true, Nat.reduceAdd, Nat.reduceEqDiff, Nat.reduceBEq, Nat.reduceLeDiff, Nat.reduceSub, Nat.reduceMul, Int.reduceEq, Int.reduceLT, Int.reduceLE, Int.reduceSub, Int.reduceAdd, Int.reduceToNat, reduceCtorEq, Int.reduceNeg, TF3, TF4, TF9, TF33, TF84]; refine hK _ _ ?_; clear hK K)
  refine AWp.seqK fun K1 hK1 => ?_
  refine AWp.block (AWp.loop (X := Nat × Nat) (fun x => [(0, strsV l), (1, strV s), (6, intV l.length), (7, intV x.1), (8, intV x.2)]) (fun _ => [])
    (fun x => x.1 ≤ x.2 ∧ x.2 ≤ l.length ∧ (∀ k y, k < x.1 → l[k]? = some y → y < s) ∧ (∀ k y, x.2 ≤ k → l[k]? = some y → ¬ y < s)) (fun x => x.2 - x.1) (0, l.length) ?_ ?_ ?_ ?_)
  · refine ⟨by simp, by simp, by simp, ?_⟩
    intro k y hk hy
    have := (List.getElem?_eq_some_iff.1 hy).1
    omega
  · exact (by simp [sle, vle, sget])
  · exact (by simp [ble, bget, exC, tyC, foC, paC, siC, deC, prC])
  rintro ⟨i, j⟩ ⟨h1, h2, h3, h4⟩
  simp only at h1 h2 h3 h4
  by_cases hlt : (i : Int) < (j : Int)
  · refine AWp.seqK fun K2 hK2 => ?_
    (refine AWp.seqR [0, 1, 4, 5, 6, 7, 8, 9, 15, 27] [] (by decide +kernel) fun K hK => ?_; simp -implicitDefEqProofs only [EV, forall_const, implies_true, Nat.reduceAdd, Nat.reduceEqDiff, Nat.reduceBEq, Nat.reduceLeDiff, Nat.reduceSub, Nat.reduceMul, Int.reduceEq, Int.reduceLT, Int.reduceLE, Int.reduceSub, Int.reduceAdd, Int.reduceToNat, reduceCtorEq, Int.reduceNeg, TF3, TF4, TF9, TF33, TF84, hlt]; refine hK _ _ ?_; clear hK K)
    refine AWp.goOnK rfl hK2 ?_
    clear hK2 K2
    refine AWp.block ?_
    have hlim : i + j < 281474976710656 := by unfold lim at hl; omega
    have hmj : (i + j) / 2 < j := by omega
    have hmi : i ≤ (i + j) / 2 := by omega
    (refine AWp.seqR [0, 1, 4, 5, 6, 7, 8, 9, 15, 27] [] (by decide +kernel) fun K hK => ?_; simp -implicitDefEqProofs only [EV, forall_const, implies_true, Nat.reduceAdd, Nat.reduceEqDiff, Nat.reduceBEq, Nat.reduceLeDiff, Nat.reduceSub, Nat.reduceMul, Int.reduceEq, Int.reduceLT, Int.reduceLE, Int.reduceSub, Int.reduceAdd, Int.reduceToNat, reduceCtorEq, Int.reduceNeg, TF3, TF4, TF9, TF33, TF84, mid_u hlim]; refine ⟨by first | (unfold InR; omega) | (simp only [InR, sm, lim] at *; omega), ?_⟩; (try simp -implicitDefEqProofs only [EV, forall_const, implies_true, Nat.reduceAdd, Nat.reduceEqDiff, Nat.reduceBEq, Nat.reduceLeDiff, Nat.reduceSub, Nat.reduceMul, Int.reduceEq, Int.reduceLT, Int.reduceLE, Int.reduceSub, Int.reduceAdd, Int.reduceToNat, reduceCtorEq, Int.reduceNeg, TF3, TF4, TF9, TF33, TF84, mid_u hlim]); refine hK _ _ ?_; clear hK K)
    generalize (i + j) / 2 = m at *
    have hy : l[m]? = some l[m] := List.getElem?_eq_getElem (by omega)
    generalize l[m] = y at *
    (refine AWp.seqR [0, 1, 4, 5, 6, 7, 8, 9, 15, 27] [] (by decide +kernel) fun K hK => ?_; simp -implicitDefEqProofs only [EV, forall_const, implies_true, Nat.reduceAdd, Nat.reduceEqDiff, Nat.reduceBEq, Nat.reduceLeDiff, Nat.reduceSub, Nat.reduceMul, Int.reduceEq, Int.reduceLT, Int.reduceLE, Int.reduceSub, Int.reduceAdd, Int.reduceToNat, reduceCtorEq, Int.reduceNeg, TF3, TF4, TF9, TF33, TF84]; refine ⟨by omega, _, strR_get hy, rfl, ?_⟩; (try simp -implicitDefEqProofs only [EV, forall_const, implies_true, Nat.reduceAdd, Nat.reduceEqDiff, Nat.reduceBEq, Nat.reduceLeDiff, Nat.reduceSub, Nat.reduceMul, Int.reduceEq, Int.reduceLT, Int.reduceLE, Int.reduceSub, Int.reduceAdd, Int.reduceToNat, reduceCtorEq, Int.reduceNeg, TF3, TF4, TF9, TF33, TF84]); refine ⟨_, .inl ⟨_, rfl, ok_Less y s, rfl⟩, ?_⟩; (try simp -implicitDefEqProofs only [EV, forall_const, implies_true, Nat.reduceAdd, Nat.reduceEqDiff, Nat.reduceBEq, Nat.reduceLeDiff, Nat.reduceSub, Nat.reduceMul, Int.reduceEq, Int.reduceLT, Int.reduceLE, Int.reduceSub, Int.reduceAdd, Int.reduceToNat, reduceCtorEq, Int.reduceNeg, TF3, TF4, TF9, TF33, TF84]); refine hK _ _ ?_; clear hK K)
    refine AWp.cond rfl (fun hc => ?_) (fun hc => ?_)
    · rw [bl_lt] at hc
      (refine AWp.lastR [0, 1, 4, 5, 6, 7, 8, 9, 15, 27] [] (by decide +kernel) fun K hK => ?_; simp -implicitDefEqProofs only [EV, forall_const, implies_true, Nat.reduceAdd, Nat.reduceEqDiff, Nat.reduceBEq, Nat.reduceLeDiff, Nat.reduceSub, Nat.reduceMul, Int.reduceEq, Int.reduceLT, Int.reduceLE, Int.reduceSub, Int.reduceAdd, Int.reduceToNat, reduceCtorEq, Int.reduceNeg, TF3, TF4, TF9, TF33, TF84]; refine ⟨by first | (unfold InR; omega) | (simp only [InR, sm, lim] at *; omega), ?_⟩; (try simp -implicitDefEqProofs only [EV, forall_const, implies_true, Nat.reduceAdd, Nat.reduceEqDiff, Nat.reduceBEq, Nat.reduceLeDiff, Nat.reduceSub, Nat.reduceMul, Int.reduceEq, Int.reduceLT, Int.reduceLE, Int.reduceSub, Int.reduceAdd, Int.reduceToNat, reduceCtorEq, Int.reduceNeg, TF3, TF4, TF9, TF33, TF84]); refine hK _ _ ?_; clear hK K; try simp only [thenA, blockA, if_true])
      refine ⟨(m + 1, j), ⟨by simp only; omega, h2, ?_, h4⟩, by simp only; omega, (by simp [sle, vle, sget]), (by simp [ble, bget, exC, tyC, foC, paC, siC, deC, prC])⟩
      intro k x hk hx
      by_cases hkm : k = m
      · subst hkm; rw [hx] at hy; simp only [Option.some.injEq] at hy; subst hy; exact hc
      · exact lt_tr (ha.get hx hy (by simp only at hk; omega)) hc
    · have hc : ¬ y < s := by rw [← bl_lt]; simp [hc]
      (refine AWp.lastR [0, 1, 4, 5, 6, 7, 8, 9, 15, 27] [] (by decide +kernel) fun K hK => ?_; simp -implicitDefEqProofs only [EV, forall_const, implies_true, Nat.reduceAdd, Nat.reduceEqDiff, Nat.reduceBEq, Nat.reduceLeDiff, Nat.reduceSub, Nat.reduceMul, Int.reduceEq, Int.reduceLT, Int.reduceLE, Int.reduceSub, Int.reduceAdd, Int.reduceToNat, reduceCtorEq, Int.reduceNeg, TF3, TF4, TF9, TF33, TF84]; refine hK _ _ ?_; clear hK K; try simp only [thenA, blockA, if_true])
      refine ⟨(i, m), ⟨hmi, by simp only; omega, h3, ?_⟩, by simp only; omega, (by simp [sle, vle, sget]), (by simp [ble, bget, exC, tyC, foC, paC, siC, deC, prC])⟩
      intro k x hk hx hxs
      by_cases hkm : k = m
      · subst hkm; rw [hx] at hy; simp only [Option.some.injEq] at hy; subst hy; exact hc hxs
      · exact hc (lt_tr (ha.get hy hx (by simp only at hk; omega)) hxs)
  · have hij : i = j := by omega
    subst hij
    have hcnt := cntLt_is s l i h2 h3 (fun x hx => h4 i x (Nat.le_refl _) hx)
    refine AWp.seqK fun K2 hK2 => ?_
    (refine AWp.seqR [0, 1, 4, 5, 6, 7, 8, 9, 15, 27] [] (by decide +kernel) fun K hK => ?_; simp -implicitDefEqProofs only [EV, forall_const, implies_true, Nat.reduceAdd, Nat.reduceEqDiff, Nat.reduceBEq, Nat.reduceLeDiff, Nat.reduceSub, Nat.reduceMul, Int.reduceEq, Int.reduceLT, Int.reduceLE, Int.reduceSub, Int.reduceAdd, Int.reduceToNat, reduceCtorEq, Int.reduceNeg, TF3, TF4, TF9, TF33, TF84, hlt]; refine hK _ _ ?_; clear hK K)
    refine AWp.stopK rfl ?_
    simp only [thenA, blockA, if_true]
    refine hK1 _ _ ?_
    clear hK1 K1 hK2 K2
    rw [hcnt]
    by_cases hi : (i : Int) < (l.length : Int)
    · have hy : l[i]? = some l[i] := List.getElem?_eq_getElem (by omega)
      have hmem := List.getElem_mem (h := show i < l.length by omega)
      generalize l[i] = y at *
      by_cases hys : y = s
      · subst hys
        (refine AWp.seqR [0, 1, 4, 5, 6, 7, 8, 9, 15, 27] [] (by decide +kernel) fun K hK => ?_; simp -implicitDefEqProofs only [EV, forall_const, implies_true, Nat.reduceAdd, Nat.reduceEqDiff, Nat.reduceBEq, Nat.reduceLeDiff, Nat.reduceSub, Nat.reduceMul, Int.reduceEq, Int.reduceLT, Int.reduceLE, Int.reduceSub, Int.reduceAdd, Int.reduceToNat, reduceCtorEq, Int.reduceNeg, TF3, TF4, TF9, TF33, TF84, hi]; refine ⟨by omega, _, strR_get hy, rfl, ?_⟩; (try simp -implicitDefEqProofs only [EV, forall_const, implies_true, Nat.reduceAdd, Nat.reduceEqDiff, Nat.reduceBEq, Nat.reduceLeDiff, Nat.reduceSub, Nat.reduceMul, Int.reduceEq, Int.reduceLT, Int.reduceLE, Int.reduceSub, Int.reduceAdd, Int.reduceToNat, reduceCtorEq, Int.reduceNeg, TF3, TF4, TF9, TF33, TF84, hi]); refine hK _ _ ?_; clear hK K)
        rw [decide_eq_true hmem]
        exact AWp.ret ⟨_, by rw [Try.results26]; rfl, rfl⟩
      · have hns : ¬ s ∈ l := by
          intro hm
          obtain ⟨k, hk⟩ := List.mem_iff_getElem?.1 hm
          by_cases hki : k < i
          · exact lt_irr _ (h3 k s hki hk)
          · by_cases hke : k = i
            · subst hke; rw [hk] at hy; simp only [Option.some.injEq] at hy; exact hys hy.symm
            · exact h4 i y (Nat.le_refl _) hy (ha.get hy hk (by omega))
        (refine AWp.seqR [0, 1, 4, 5, 6, 7, 8, 9, 15, 27] [] (by decide +kernel) fun K hK => ?_; simp -implicitDefEqProofs only [EV, forall_const, implies_true, Nat.reduceAdd, Nat.reduceEqDiff, Nat.reduceBEq, Nat.reduceLeDiff, Nat.reduceSub, Nat.reduceMul, Int.reduceEq, Int.reduceLT, Int.reduceLE, Int.reduceSub, Int.reduceAdd, Int.reduceToNat, reduceCtorEq, Int.reduceNeg, TF3, TF4, TF9, TF33, TF84, hi, hys]; refine ⟨by omega, _, strR_get hy, rfl, ?_⟩; (try simp -implicitDefEqProofs only [EV, forall_const, implies_true, Nat.reduceAdd, Nat.reduceEqDiff, Nat.reduceBEq, Nat.reduceLeDiff, Nat.reduceSub, Nat.reduceMul, Int.reduceEq, Int.reduceLT, Int.reduceLE, Int.reduceSub, Int.reduceAdd, Int.reduceToNat, reduceCtorEq, Int.reduceNeg, TF3, TF4, TF9, TF33, TF84, hi, hys]); refine ⟨by omega, _, strR_get hy, rfl, ?_⟩; (try simp -implicitDefEqProofs only [EV, forall_const, implies_true, Nat.reduceAdd, Nat.reduceEqDiff, Nat.reduceBEq, Nat.reduceLeDiff, Nat.reduceSub, Nat.reduceMul, Int.reduceEq, Int.reduceLT, Int.reduceLE, Int.reduceSub, Int.reduceAdd, Int.reduceToNat, reduceCtorEq, Int.reduceNeg, TF3, TF4, TF9, TF33, TF84, hi, hys]); refine ⟨_, .inl ⟨_, rfl, ok_isNaN2 y, rfl⟩, ?_⟩; (try simp -implicitDefEqProofs only [EV, forall_const, implies_true, Nat.reduceAdd, Nat.reduceEqDiff, Nat.reduceBEq, Nat.reduceLeDiff, Nat.reduceSub, Nat.reduceMul, Int.reduceEq, Int.reduceLT, Int.reduceLE, Int.reduceSub, Int.reduceAdd, Int.reduceToNat, reduceCtorEq, Int.reduceNeg, TF3, TF4, TF9, TF33, TF84, hi, hys]); refine hK _ _ ?_; clear hK K)
        rw [decide_eq_false hns]
        exact AWp.ret ⟨_, by rw [Try.results26]; rfl, rfl⟩
    · have hns : ¬ s ∈ l := by
        intro hm
        obtain ⟨k, hk⟩ := List.mem_iff_getElem?.1 hm
        have := (List.getElem?_eq_some_iff.1 hk).1
        exact lt_irr _ (h3 k s (by omega) hk)
      (refine AWp.seqR [0, 1, 4, 5, 6, 7, 8, 9, 15, 27] [] (by decide +kernel) fun K hK => ?_; simp -implicitDefEqProofs only [EV, forall_const, implies_true, Nat.reduceAdd, Nat.reduceEqDiff, Nat.reduceBEq, Nat.reduceLeDiff, Nat.reduceSub, Nat.reduceMul, Int.reduceEq, Int.reduceLT, Int.reduceLE, Int.reduceSub, Int.reduceAdd, Int.reduceToNat, reduceCtorEq, Int.reduceNeg, TF3, TF4, TF9, TF33, TF84, hi]; refine hK _ _ ?_; clear hK K)
      rw [decide_eq_false hns]
      exact AWp.ret ⟨_, by rw [Try.results26]; rfl, rfl⟩
end Go.Abs
