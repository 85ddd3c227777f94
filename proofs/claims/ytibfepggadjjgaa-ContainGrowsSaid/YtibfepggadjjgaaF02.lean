/- castingsref05.Count, castingsref06.Count and its parts, Few -/
import Derived.Test.YtibfepggadjjgaaF01
namespace Go.Abs
set_option linter.unusedSimpArgs false
set_option linter.unusedVariables false
open Go Go.Proofs

theorem div50_le {n : Nat} (h : n ≤ lim) : n / 50 ≤ 2814749767106 := by unfold lim at h; omega

set_option maxRecDepth 100000 in
set_option maxHeartbeats 1000000 in
theorem ok_Few04 (t : Ty) : CallOK Try.prog 16 [tyV t] (boolV (decide (t.count 0 ≤ 200))) := by
  (refine CallOK.of_body Try.func16 rfl (by decide) (by rw [Try.ntmps16]; simp) ?_; rw [Try.ntmps16])
  (refine AWp.seqR [0, 1, 2] [] (by decide +kernel) fun K hK => ?_; simp -implicitDefEqProofs only [EV, forall_const, implies_true, Nat.reduceAdd, Nat.reduceEqDiff, Nat.reduceBEq, Nat.reduceLeDiff, Nat.reduceSub, Nat.reduceMul, Int.reduceEq, Int.reduceLT, Int.reduceLE, Int.reduceSub, Int.reduceAdd, Int.reduceToNat, reduceCtorEq, Int.reduceNeg, TF3, TF4, TF9, TF25]; refine hK _ _ ?_; clear hK K)
  (refine AWp.seqR [0, 1, 2] [] (by decide +kernel) fun K hK => ?_; simp -implicitDefEqProofs only [EV, forall_const, implies_true, Nat.reduceAdd, Nat.reduceEqDiff, Nat.reduceBEq, Nat.reduceLeDiff, Nat.reduceSub, Nat.reduceMul, Int.reduceEq, Int.reduceLT, Int.reduceLE, Int.reduceSub, Int.reduceAdd, Int.reduceToNat, reduceCtorEq, Int.reduceNeg, TF3, TF4, TF9, TF25])
  refine ⟨intV (t.count 0), .inl ⟨_, rfl, ok_Count04 t 0 (by omega) (by unfold cap; omega), rfl⟩, ?_⟩
  simp -implicitDefEqProofs only [EV, forall_const, implies_true, Nat.reduceAdd, Nat.reduceEqDiff, Nat.reduceBEq, Nat.reduceLeDiff, Nat.reduceSub, Nat.reduceMul, Int.reduceEq, Int.reduceLT, Int.reduceLE, Int.reduceSub, Int.reduceAdd, Int.reduceToNat, reduceCtorEq, Int.reduceNeg, TF3, TF4, TF9, TF25]
  (refine hK _ _ ?_; clear hK K)
  exact AWp.ret ⟨_, by rw [Try.results16]; rfl, rfl⟩

mutual
def Ex.count : Ex → Int → Int
  | .mk _ nm t ta ks _, n => Ex.countL ks (Ty.countL ta (t.count (n + ((nm.length / 50 : Nat) : Int))))
def Ex.countL : List Ex → Int → Int
  | [], n => n
  | e :: es, n => if n ≤ 2000 then Ex.countL es (e.count n) else n
end
theorem Ex.count_eq (e : Ex) (n : Int) : e.count n = Ex.countL e.kids (Ty.countL e.targs (e.type.count (n + ((e.name.length / 50 : Nat) : Int)))) := by cases e; rfl
mutual
theorem Ex.count_bd : ∀ (e : Ex) (n : Int), e.Ok → n ≤ e.count n ∧ e.count n ≤ max n 2000 + 6000000000000
  | .mk k nm t ta ks p, n, h => by
    have h1 := div50_le h.name
    have h2 := Ty.count_bd t (n + ((nm.length / 50 : Nat) : Int)) h.type
    have h3 := Ty.countL_bd ta (t.count (n + ((nm.length / 50 : Nat) : Int))) h.targs.2
    have h4 := Ex.countL_bd ks (Ty.countL ta (t.count (n + ((nm.length / 50 : Nat) : Int)))) h.kids.2
    have h1' : ((nm.length / 50 : Nat) : Int) ≤ 2814749767106 := by simp only [Ex.name] at h1; omega
    simp only [Ex.count]
    have h0 : 0 ≤ ((nm.length / 50 : Nat) : Int) := by omega
    generalize ((nm.length / 50 : Nat) : Int) = q at *
    omega
theorem Ex.countL_bd : ∀ (l : List Ex) (n : Int), (∀ t, t ∈ l → t.Ok) → n ≤ Ex.countL l n ∧ Ex.countL l n ≤ max n (2000 + 6000000000000)
  | [], n, _ => by simp only [Ex.countL]; omega
  | t :: ts, n, h => by
    simp only [Ex.countL]
    split
    · have h1 := Ex.count_bd t n (h t (by simp))
      have h2 := Ex.countL_bd ts (t.count n) (fun u hu => h u (by simp [hu]))
      omega
    · omega
end

set_option maxRecDepth 100000 in
set_option maxHeartbeats 1000000 in
theorem ok_Count05 : ∀ (e : Ex) (n : Int), 0 ≤ n → n ≤ cap - 100000000000000 → CallOK Try.prog 31 [exV e, intV n] (intV (e.count n)) := by
  intro e
  induction e using Ex.induct with
  | h e ih =>
  intro n h0 h1
  refine CallB.bd (Enters.of Try.func31 rfl (by decide)) fun hbd => ?_
  have hok := ex_ok hbd.1
  have hq := div50_le hok.name
  have ht := Ty.count_bd e.type (n + ((e.name.length / 50 : Nat) : Int)) hok.type
  have ht2 := Ty.countL_bd e.targs (e.type.count (n + ((e.name.length / 50 : Nat) : Int))) hok.targs.2
  have hl1 := hok.targs.1
  have hl2 := hok.kids.1
  have heqn := Ex.count_eq e n
  (refine CallOK.of_body Try.func31 rfl (by decide) (by rw [Try.ntmps31]; simp) ?_; rw [Try.ntmps31])
  (refine AWp.seqR [0, 1, 2, 4, 5, 6, 24, 42] [] (by decide +kernel) fun K hK => ?_; simp -implicitDefEqProofs only [EV, forall_const, implies_true, Nat.reduceAdd, Nat.reduceEqDiff, Nat.reduceBEq, Nat.reduceLeDiff, Nat.reduceSub, Nat.reduceMul, Int.reduceEq, Int.reduceLT, Int.reduceLE, Int.reduceSub, Int.reduceAdd, Int.reduceToNat, reduceCtorEq, Int.reduceNeg, TF3, TF4, TF9, TF23, TF25, TF26, TF28]; refine hK _ _ ?_; clear hK K)
  (refine AWp.seqR [0, 1, 2, 4, 5, 6, 24, 42] [] (by decide +kernel) fun K hK => ?_; simp -implicitDefEqProofs only [EV, forall_const, implies_true, Nat.reduceAdd, Nat.reduceEqDiff, Nat.reduceBEq, Nat.reduceLeDiff, Nat.reduceSub, Nat.reduceMul, Int.reduceEq, Int.reduceLT, Int.reduceLE, Int.reduceSub, Int.reduceAdd, Int.reduceToNat, reduceCtorEq, Int.reduceNeg, TF3, TF4, TF9, TF23, TF25, TF26, TF28])
  refine ⟨(by first | (unfold InR; omega) | (simp only [InR, sm, lim] at *; omega)), by unfold InR cap at *; omega, intV (e.type.count (n + ((e.name.length / 50 : Nat) : Int))), .inl ⟨_, rfl, ok_Count04 e.type _ (by omega) (by unfold cap at *; omega), rfl⟩, ?_⟩
  simp -implicitDefEqProofs only [EV, forall_const, implies_true, Nat.reduceAdd, Nat.reduceEqDiff, Nat.reduceBEq, Nat.reduceLeDiff, Nat.reduceSub, Nat.reduceMul, Int.reduceEq, Int.reduceLT, Int.reduceLE, Int.reduceSub, Int.reduceAdd, Int.reduceToNat, reduceCtorEq, Int.reduceNeg, TF3, TF4, TF9, TF23, TF25, TF26, TF28]
  (refine hK _ _ ?_; clear hK K)
  generalize e.type.count (n + ((e.name.length / 50 : Nat) : Int)) = n1 at *
  refine AWp.seqK fun K1 hK1 => ?_
  have fin : ∀ sl bx, sle sl [(1, intV (Ty.countL e.targs n1)), (2, .box 2 0)] → ble bx [(2, .cells ((exC e).map .d))] → K1 sl bx := by
    intro sl bx h1 h2
    refine hK1 _ _ (AWp.weaken h1 h2 ?_)
    clear hK1 K1
    generalize Ty.countL e.targs n1 = n2 at *
    refine AWp.seqK fun K1 hK1 => ?_
    (refine AWp.seqR [0, 1, 2, 4, 5, 6, 24, 42] [] (by decide +kernel) fun K hK => ?_; simp -implicitDefEqProofs only [EV, forall_const, implies_true, Nat.reduceAdd, Nat.reduceEqDiff, Nat.reduceBEq, Nat.reduceLeDiff, Nat.reduceSub, Nat.reduceMul, Int.reduceEq, Int.reduceLT, Int.reduceLE, Int.reduceSub, Int.reduceAdd, Int.reduceToNat, reduceCtorEq, Int.reduceNeg, TF3, TF4, TF9, TF23, TF25, TF26, TF28]; refine hK _ _ ?_; clear hK K)
    have fin : ∀ sl bx, sle sl [(1, intV (Ex.countL e.kids n2))] → ble bx [] → K1 sl bx := by
      intro sl bx h1 h2
      refine hK1 _ _ (AWp.weaken h1 h2 ?_)
      (refine AWp.seqR [0, 1, 2, 4, 5, 6, 24, 42] [] (by decide +kernel) fun K hK => ?_; simp -implicitDefEqProofs only [EV, forall_const, implies_true, Nat.reduceAdd, Nat.reduceEqDiff, Nat.reduceBEq, Nat.reduceLeDiff, Nat.reduceSub, Nat.reduceMul, Int.reduceEq, Int.reduceLT, Int.reduceLE, Int.reduceSub, Int.reduceAdd, Int.reduceToNat, reduceCtorEq, Int.reduceNeg, TF3, TF4, TF9, TF23, TF25, TF26, TF28]; refine hK _ _ ?_; clear hK K)
      rw [heqn]
      exact AWp.ret ⟨_, by rw [Try.results31]; rfl, rfl⟩
    refine AWp.block (AWp.loop (X := Nat × Int) (fun x => [(1, intV x.2), (6, intV x.1), (2, .box 2 0)]) (fun _ => [(2, .cells ((exC e).map .d))])
      (fun x => x.1 ≤ e.kids.length ∧ 0 ≤ x.2 ∧ x.2 ≤ cap + 100000000000000 ∧ Ex.countL (e.kids.drop x.1) x.2 = Ex.countL e.kids n2) (fun x => e.kids.length - x.1) (0, n2) ?_ ?_ ?_ ?_)
    · exact ⟨by simp, by omega, by unfold cap at *; omega, by first | rfl | simp⟩
    · simp [sle, vle, sget]
    · exact (by simp [ble, bget, exC, tyC, foC, paC, siC, deC, prC])
    rintro ⟨i, m⟩ ⟨hi, hm0, hm1, heq⟩
    simp only at hi hm0 hm1 heq
    by_cases hlt : (i : Int) < (e.kids.length : Int)
    · have hlt' : i < e.kids.length := by omega
      have hx : e.kids[i]? = some e.kids[i] := List.getElem?_eq_getElem hlt'
      have hmem : e.kids[i] ∈ e.kids := List.getElem_mem hlt'
      have hdrop : e.kids.drop i = e.kids[i] :: e.kids.drop (i + 1) := List.drop_eq_getElem_cons hlt'
      generalize e.kids[i] = x at *
      rw [hdrop, Ex.countL] at heq
      refine AWp.seqK fun K2 hK2 => ?_
      by_cases hm : m ≤ 2000
      · rw [if_pos hm] at heq
        (refine AWp.seqR [0, 1, 2, 4, 5, 6, 24, 42] [] (by decide +kernel) fun K hK => ?_; simp -implicitDefEqProofs only [EV, forall_const, implies_true, Nat.reduceAdd, Nat.reduceEqDiff, Nat.reduceBEq, Nat.reduceLeDiff, Nat.reduceSub, Nat.reduceMul, Int.reduceEq, Int.reduceLT, Int.reduceLE, Int.reduceSub, Int.reduceAdd, Int.reduceToNat, reduceCtorEq, Int.reduceNeg, TF3, TF4, TF9, TF23, TF25, TF26, TF28, hlt, hm]; refine hK _ _ ?_; clear hK K)
        refine AWp.condT rfl (AWp.skip (hK2 _ _ ?_))
        clear hK2 K2
        refine AWp.seqK fun K2 hK2 => ?_
        refine AWp.block ?_
        (refine AWp.lastR [0, 1, 2, 4, 5, 6, 24, 42] [] (by decide +kernel) fun K hK => ?_; simp -implicitDefEqProofs only [EV, forall_const, implies_true, Nat.reduceAdd, Nat.reduceEqDiff, Nat.reduceBEq, Nat.reduceLeDiff, Nat.reduceSub, Nat.reduceMul, Int.reduceEq, Int.reduceLT, Int.reduceLE, Int.reduceSub, Int.reduceAdd, Int.reduceToNat, reduceCtorEq, Int.reduceNeg, TF3, TF4, TF9, TF23, TF25, TF26, TF28, hlt])
        (refine ⟨by omega, exC x, exR_get hx, rfl, ?_⟩; simp -implicitDefEqProofs only [EV, forall_const, implies_true, Nat.reduceAdd, Nat.reduceEqDiff, Nat.reduceBEq, Nat.reduceLeDiff, Nat.reduceSub, Nat.reduceMul, Int.reduceEq, Int.reduceLT, Int.reduceLE, Int.reduceSub, Int.reduceAdd, Int.reduceToNat, reduceCtorEq, Int.reduceNeg, TF3, TF4, TF9, TF23, TF25, TF26, TF28, hlt]; refine ⟨intV (x.count m), .inl ⟨_, rfl, ih x hmem m hm0 (by unfold cap; omega), rfl⟩, ?_⟩; simp -implicitDefEqProofs only [EV, forall_const, implies_true, Nat.reduceAdd, Nat.reduceEqDiff, Nat.reduceBEq, Nat.reduceLeDiff, Nat.reduceSub, Nat.reduceMul, Int.reduceEq, Int.reduceLT, Int.reduceLE, Int.reduceSub, Int.reduceAdd, Int.reduceToNat, reduceCtorEq, Int.reduceNeg, TF3, TF4, TF9, TF23, TF25, TF26, TF28, hlt])
        (refine hK _ _ ?_; clear hK K; try simp only [thenA, blockA, if_true])
        refine hK2 _ _ ?_
        clear hK2 K2
        (refine AWp.lastR [0, 1, 2, 4, 5, 6, 24, 42] [] (by decide +kernel) fun K hK => ?_; simp -implicitDefEqProofs only [EV, forall_const, implies_true, Nat.reduceAdd, Nat.reduceEqDiff, Nat.reduceBEq, Nat.reduceLeDiff, Nat.reduceSub, Nat.reduceMul, Int.reduceEq, Int.reduceLT, Int.reduceLE, Int.reduceSub, Int.reduceAdd, Int.reduceToNat, reduceCtorEq, Int.reduceNeg, TF3, TF4, TF9, TF23, TF25, TF26, TF28])
        refine ⟨by unfold InR; unfold lim at *; omega, ?_⟩
        (refine hK _ _ ?_; clear hK K; try simp only [thenA, blockA, if_true])
        have hb := Ex.count_bd x m (hok.kids.2 x hmem)
        exact ⟨(i + 1, x.count m), ⟨by simp only; omega, by simp only; omega, by simp only; unfold cap; omega, heq⟩, by simp only; omega, by simp [sle, vle, sget], (by simp [ble, bget, exC, tyC, foC, paC, siC, deC, prC])⟩
      · rw [if_neg hm] at heq
        (refine AWp.seqR [0, 1, 2, 4, 5, 6, 24, 42] [] (by decide +kernel) fun K hK => ?_; simp -implicitDefEqProofs only [EV, forall_const, implies_true, Nat.reduceAdd, Nat.reduceEqDiff, Nat.reduceBEq, Nat.reduceLeDiff, Nat.reduceSub, Nat.reduceMul, Int.reduceEq, Int.reduceLT, Int.reduceLE, Int.reduceSub, Int.reduceAdd, Int.reduceToNat, reduceCtorEq, Int.reduceNeg, TF3, TF4, TF9, TF23, TF25, TF26, TF28, hlt, hm]; refine hK _ _ ?_; clear hK K)
        refine AWp.condF rfl (AWp.exit ?_)
        simp only [thenA, blockA, if_true]
        exact fin _ _ (by simp [sle, vle, sget, heq]) (by simp [ble, bget, exC, tyC, foC, paC, siC, deC, prC])
    · refine AWp.seqK fun K2 hK2 => ?_
      (refine AWp.seqR [0, 1, 2, 4, 5, 6, 24, 42] [] (by decide +kernel) fun K hK => ?_; simp -implicitDefEqProofs only [EV, forall_const, implies_true, Nat.reduceAdd, Nat.reduceEqDiff, Nat.reduceBEq, Nat.reduceLeDiff, Nat.reduceSub, Nat.reduceMul, Int.reduceEq, Int.reduceLT, Int.reduceLE, Int.reduceSub, Int.reduceAdd, Int.reduceToNat, reduceCtorEq, Int.reduceNeg, TF3, TF4, TF9, TF23, TF25, TF26, TF28, hlt]; refine hK _ _ ?_; clear hK K)
      refine AWp.condF rfl (AWp.exit ?_)
      simp only [thenA, blockA, if_true]
      rw [List.drop_eq_nil_of_le (by omega), Ex.countL] at heq
      exact fin _ _ (by simp [sle, vle, sget, heq]) (by simp [ble, bget, exC, tyC, foC, paC, siC, deC, prC])
  (refine AWp.seqR [0, 1, 2, 4, 5, 6, 24, 42] [] (by decide +kernel) fun K hK => ?_; simp -implicitDefEqProofs only [EV, forall_const, implies_true, Nat.reduceAdd, Nat.reduceEqDiff, Nat.reduceBEq, Nat.reduceLeDiff, Nat.reduceSub, Nat.reduceMul, Int.reduceEq, Int.reduceLT, Int.reduceLE, Int.reduceSub, Int.reduceAdd, Int.reduceToNat, reduceCtorEq, Int.reduceNeg, TF3, TF4, TF9, TF23, TF25, TF26, TF28]; refine hK _ _ ?_; clear hK K)
  refine AWp.block (AWp.loop (X := Nat × Int) (fun x => [(1, intV x.2), (5, intV x.1), (2, .box 2 0)]) (fun _ => [(2, .cells ((exC e).map .d))])
    (fun x => x.1 ≤ e.targs.length ∧ 0 ≤ x.2 ∧ x.2 ≤ cap + 100000000000000 ∧ Ty.countL (e.targs.drop x.1) x.2 = Ty.countL e.targs n1) (fun x => e.targs.length - x.1) (0, n1) ?_ ?_ ?_ ?_)
  · exact ⟨by simp, by omega, by unfold cap at *; omega, by first | rfl | simp⟩
  · simp [sle, vle, sget]
  · exact (by simp [ble, bget, exC, tyC, foC, paC, siC, deC, prC])
  rintro ⟨i, m⟩ ⟨hi, hm0, hm1, heq⟩
  simp only at hi hm0 hm1 heq
  by_cases hlt : (i : Int) < (e.targs.length : Int)
  · have hlt' : i < e.targs.length := by omega
    have hx : e.targs[i]? = some e.targs[i] := List.getElem?_eq_getElem hlt'
    have hmem : e.targs[i] ∈ e.targs := List.getElem_mem hlt'
    have hdrop : e.targs.drop i = e.targs[i] :: e.targs.drop (i + 1) := List.drop_eq_getElem_cons hlt'
    generalize e.targs[i] = x at *
    rw [hdrop, Ty.countL] at heq
    refine AWp.seqK fun K2 hK2 => ?_
    by_cases hm : m ≤ 2000
    · rw [if_pos hm] at heq
      (refine AWp.seqR [0, 1, 2, 4, 5, 6, 24, 42] [] (by decide +kernel) fun K hK => ?_; simp -implicitDefEqProofs only [EV, forall_const, implies_true, Nat.reduceAdd, Nat.reduceEqDiff, Nat.reduceBEq, Nat.reduceLeDiff, Nat.reduceSub, Nat.reduceMul, Int.reduceEq, Int.reduceLT, Int.reduceLE, Int.reduceSub, Int.reduceAdd, Int.reduceToNat, reduceCtorEq, Int.reduceNeg, TF3, TF4, TF9, TF23, TF25, TF26, TF28, hlt, hm]; refine hK _ _ ?_; clear hK K)
      refine AWp.condT rfl (AWp.skip (hK2 _ _ ?_))
      clear hK2 K2
      refine AWp.seqK fun K2 hK2 => ?_
      refine AWp.block ?_
      (refine AWp.lastR [0, 1, 2, 4, 5, 6, 24, 42] [] (by decide +kernel) fun K hK => ?_; simp -implicitDefEqProofs only [EV, forall_const, implies_true, Nat.reduceAdd, Nat.reduceEqDiff, Nat.reduceBEq, Nat.reduceLeDiff, Nat.reduceSub, Nat.reduceMul, Int.reduceEq, Int.reduceLT, Int.reduceLE, Int.reduceSub, Int.reduceAdd, Int.reduceToNat, reduceCtorEq, Int.reduceNeg, TF3, TF4, TF9, TF23, TF25, TF26, TF28, hlt])
      (refine ⟨by omega, tyC x, tyR_get hx, rfl, ?_⟩; simp -implicitDefEqProofs only [EV, forall_const, implies_true, Nat.reduceAdd, Nat.reduceEqDiff, Nat.reduceBEq, Nat.reduceLeDiff, Nat.reduceSub, Nat.reduceMul, Int.reduceEq, Int.reduceLT, Int.reduceLE, Int.reduceSub, Int.reduceAdd, Int.reduceToNat, reduceCtorEq, Int.reduceNeg, TF3, TF4, TF9, TF23, TF25, TF26, TF28, hlt]; refine ⟨intV (x.count m), .inl ⟨_, rfl, ok_Count04 x m hm0 (by unfold cap; omega), rfl⟩, ?_⟩; simp -implicitDefEqProofs only [EV, forall_const, implies_true, Nat.reduceAdd, Nat.reduceEqDiff, Nat.reduceBEq, Nat.reduceLeDiff, Nat.reduceSub, Nat.reduceMul, Int.reduceEq, Int.reduceLT, Int.reduceLE, Int.reduceSub, Int.reduceAdd, Int.reduceToNat, reduceCtorEq, Int.reduceNeg, TF3, TF4, TF9, TF23, TF25, TF26, TF28, hlt])
      (refine hK _ _ ?_; clear hK K; try simp only [thenA, blockA, if_true])
      refine hK2 _ _ ?_
      clear hK2 K2
      (refine AWp.lastR [0, 1, 2, 4, 5, 6, 24, 42] [] (by decide +kernel) fun K hK => ?_; simp -implicitDefEqProofs only [EV, forall_const, implies_true, Nat.reduceAdd, Nat.reduceEqDiff, Nat.reduceBEq, Nat.reduceLeDiff, Nat.reduceSub, Nat.reduceMul, Int.reduceEq, Int.reduceLT, Int.reduceLE, Int.reduceSub, Int.reduceAdd, Int.reduceToNat, reduceCtorEq, Int.reduceNeg, TF3, TF4, TF9, TF23, TF25, TF26, TF28])
      refine ⟨by unfold InR; unfold lim at *; omega, ?_⟩
      (refine hK _ _ ?_; clear hK K; try simp only [thenA, blockA, if_true])
      have hb := Ty.count_bd x m (hok.targs.2 x hmem)
      exact ⟨(i + 1, x.count m), ⟨by simp only; omega, by simp only; omega, by simp only; unfold cap; omega, heq⟩, by simp only; omega, by simp [sle, vle, sget], (by simp [ble, bget, exC, tyC, foC, paC, siC, deC, prC])⟩
    · rw [if_neg hm] at heq
      (refine AWp.seqR [0, 1, 2, 4, 5, 6, 24, 42] [] (by decide +kernel) fun K hK => ?_; simp -implicitDefEqProofs only [EV, forall_const, implies_true, Nat.reduceAdd, Nat.reduceEqDiff, Nat.reduceBEq, Nat.reduceLeDiff, Nat.reduceSub, Nat.reduceMul, Int.reduceEq, Int.reduceLT, Int.reduceLE, Int.reduceSub, Int.reduceAdd, Int.reduceToNat, reduceCtorEq, Int.reduceNeg, TF3, TF4, TF9, TF23, TF25, TF26, TF28, hlt, hm]; refine hK _ _ ?_; clear hK K)
      refine AWp.condF rfl (AWp.exit ?_)
      simp only [thenA, blockA, if_true]
      exact fin _ _ (by simp [sle, vle, sget, heq]) (by simp [ble, bget, exC, tyC, foC, paC, siC, deC, prC])
  · refine AWp.seqK fun K2 hK2 => ?_
    (refine AWp.seqR [0, 1, 2, 4, 5, 6, 24, 42] [] (by decide +kernel) fun K hK => ?_; simp -implicitDefEqProofs only [EV, forall_const, implies_true, Nat.reduceAdd, Nat.reduceEqDiff, Nat.reduceBEq, Nat.reduceLeDiff, Nat.reduceSub, Nat.reduceMul, Int.reduceEq, Int.reduceLT, Int.reduceLE, Int.reduceSub, Int.reduceAdd, Int.reduceToNat, reduceCtorEq, Int.reduceNeg, TF3, TF4, TF9, TF23, TF25, TF26, TF28, hlt]; refine hK _ _ ?_; clear hK K)
    refine AWp.condF rfl (AWp.exit ?_)
    simp only [thenA, blockA, if_true]
    rw [List.drop_eq_nil_of_le (by omega), Ty.countL] at heq
    exact fin _ _ (by simp [sle, vle, sget, heq]) (by simp [ble, bget, exC, tyC, foC, paC, siC, deC, prC])

def foCount : List Formal → Int → Int
  | [], n => n
  | f :: fs, n => if n ≤ 2000 then foCount fs (f.bound.count (n + 1 + ((f.name.length / 50 : Nat) : Int))) else n
def paCount : List Param → Int → Int
  | [], n => n
  | f :: fs, n => if n ≤ 2000 then paCount fs (f.type.count (n + 1 + ((f.name.length / 50 : Nat) : Int))) else n
theorem fo1_bd (f : Formal) (n : Int) (h : f.Ok) : n ≤ f.bound.count (n + 1 + ((f.name.length / 50 : Nat) : Int)) ∧ f.bound.count (n + 1 + ((f.name.length / 50 : Nat) : Int)) ≤ max n 2000 + 6000000000000 := by
  have h1 := div50_le h.name
  have h2 := Ty.count_bd f.bound (n + 1 + ((f.name.length / 50 : Nat) : Int)) h.bound
  omega
theorem pa1_bd (f : Param) (n : Int) (h : f.Ok) : n ≤ f.type.count (n + 1 + ((f.name.length / 50 : Nat) : Int)) ∧ f.type.count (n + 1 + ((f.name.length / 50 : Nat) : Int)) ≤ max n 2000 + 6000000000000 := by
  have h1 := div50_le h.name
  have h2 := Ty.count_bd f.type (n + 1 + ((f.name.length / 50 : Nat) : Int)) h.type
  omega
theorem foCount_bd : ∀ (l : List Formal) (n : Int), (∀ t, t ∈ l → t.Ok) → n ≤ foCount l n ∧ foCount l n ≤ max n (2000 + 6000000000000)
  | [], n, _ => by simp only [foCount]; omega
  | t :: ts, n, h => by
    simp only [foCount]
    split
    · have h1 := fo1_bd t n (h t (by simp))
      have h2 := foCount_bd ts (t.bound.count (n + 1 + ((t.name.length / 50 : Nat) : Int))) (fun u hu => h u (by simp [hu]))
      omega
    · omega
theorem paCount_bd : ∀ (l : List Param) (n : Int), (∀ t, t ∈ l → t.Ok) → n ≤ paCount l n ∧ paCount l n ≤ max n (2000 + 6000000000000)
  | [], n, _ => by simp only [paCount]; omega
  | t :: ts, n, h => by
    simp only [paCount]
    split
    · have h1 := pa1_bd t n (h t (by simp))
      have h2 := paCount_bd ts (t.type.count (n + 1 + ((t.name.length / 50 : Nat) : Int))) (fun u hu => h u (by simp [hu]))
      omega
    · omega
set_option maxRecDepth 100000 in
set_option maxHeartbeats 1000000 in
theorem ok_foCount (l : List Formal) (n : Int) (h0 : 0 ≤ n) (h1 : n ≤ cap - 100000000000000) : CallOK Try.prog 33 [.d (.slice (foR l)), intV n] (intV (foCount l n)) := by
  refine CallB.bd (Enters.of Try.func33 rfl (by decide)) fun hbd => ?_
  have hok := fos_ok hbd.1
  have hl := hok.1
  (refine CallOK.of_body Try.func33 rfl (by decide) (by rw [Try.ntmps33]; simp) ?_; rw [Try.ntmps33])
  (refine AWp.seqR [0, 1, 4, 5, 13] [] (by decide +kernel) fun K hK => ?_; simp -implicitDefEqProofs only [EV, forall_const, implies_true, Nat.reduceAdd, Nat.reduceEqDiff, Nat.reduceBEq, Nat.reduceLeDiff, Nat.reduceSub, Nat.reduceMul, Int.reduceEq, Int.reduceLT, Int.reduceLE, Int.reduceSub, Int.reduceAdd, Int.reduceToNat, reduceCtorEq, Int.reduceNeg, TF3, TF4, TF9, TF25, TF43, TF55]; refine hK _ _ ?_; clear hK K)
  refine AWp.seqK fun K1 hK1 => ?_
  have fin : ∀ sl bx, sle sl [(1, intV (foCount l n))] → ble bx [] → K1 sl bx := by
    intro sl bx h1 h2
    refine hK1 _ _ (AWp.weaken h1 h2 ?_)
    clear hK1 K1
    (refine AWp.seqR [0, 1, 4, 5, 13] [] (by decide +kernel) fun K hK => ?_; simp -implicitDefEqProofs only [EV, forall_const, implies_true, Nat.reduceAdd, Nat.reduceEqDiff, Nat.reduceBEq, Nat.reduceLeDiff, Nat.reduceSub, Nat.reduceMul, Int.reduceEq, Int.reduceLT, Int.reduceLE, Int.reduceSub, Int.reduceAdd, Int.reduceToNat, reduceCtorEq, Int.reduceNeg, TF3, TF4, TF9, TF25, TF43, TF55]; refine hK _ _ ?_; clear hK K)
    exact AWp.ret ⟨_, by rw [Try.results33]; rfl, rfl⟩
  (refine AWp.seqR [0, 1, 4, 5, 13] [] (by decide +kernel) fun K hK => ?_; simp -implicitDefEqProofs only [EV, forall_const, implies_true, Nat.reduceAdd, Nat.reduceEqDiff, Nat.reduceBEq, Nat.reduceLeDiff, Nat.reduceSub, Nat.reduceMul, Int.reduceEq, Int.reduceLT, Int.reduceLE, Int.reduceSub, Int.reduceAdd, Int.reduceToNat, reduceCtorEq, Int.reduceNeg, TF3, TF4, TF9, TF25, TF43, TF55]; refine hK _ _ ?_; clear hK K)
  refine AWp.block (AWp.loop (X := Nat × Int) (fun x => [(1, intV x.2), (5, intV x.1), (0, .d (.slice (foR l)))]) (fun _ => [])
    (fun x => x.1 ≤ l.length ∧ 0 ≤ x.2 ∧ x.2 ≤ cap + 100000000000000 ∧ foCount (l.drop x.1) x.2 = foCount l n) (fun x => l.length - x.1) (0, n) ?_ ?_ ?_ ?_)
  · exact ⟨by simp, by omega, by unfold cap at *; omega, by first | rfl | simp⟩
  · simp [sle, vle, sget]
  · exact (by simp [ble, bget, exC, tyC, foC, paC, siC, deC, prC])
  rintro ⟨i, m⟩ ⟨hi, hm0, hm1, heq⟩
  simp only at hi hm0 hm1 heq
  by_cases hlt : (i : Int) < (l.length : Int)
  · have hlt' : i < l.length := by omega
    have hx : l[i]? = some l[i] := List.getElem?_eq_getElem hlt'
    have hmem : l[i] ∈ l := List.getElem_mem hlt'
    have hdrop : l.drop i = l[i] :: l.drop (i + 1) := List.drop_eq_getElem_cons hlt'
    generalize l[i] = x at *
    rw [hdrop, foCount] at heq
    refine AWp.seqK fun K2 hK2 => ?_
    by_cases hm : m ≤ 2000
    · rw [if_pos hm] at heq
      (refine AWp.seqR [0, 1, 4, 5, 13] [] (by decide +kernel) fun K hK => ?_; simp -implicitDefEqProofs only [EV, forall_const, implies_true, Nat.reduceAdd, Nat.reduceEqDiff, Nat.reduceBEq, Nat.reduceLeDiff, Nat.reduceSub, Nat.reduceMul, Int.reduceEq, Int.reduceLT, Int.reduceLE, Int.reduceSub, Int.reduceAdd, Int.reduceToNat, reduceCtorEq, Int.reduceNeg, TF3, TF4, TF9, TF25, TF43, TF55, hlt, hm]; refine hK _ _ ?_; clear hK K)
      refine AWp.condT rfl (AWp.skip (hK2 _ _ ?_))
      clear hK2 K2
      refine AWp.seqK fun K2 hK2 => ?_
      refine AWp.block ?_
      (refine AWp.lastD [0, 1, 4, 5, 13] [] 16 mixed (by decide +kernel) (by decide +kernel) fun K hK => ?_; simp -implicitDefEqProofs only [EV, forall_const, implies_true, Nat.reduceAdd, Nat.reduceEqDiff, Nat.reduceBEq, Nat.reduceLeDiff, Nat.reduceSub, Nat.reduceMul, Int.reduceEq, Int.reduceLT, Int.reduceLE, Int.reduceSub, Int.reduceAdd, Int.reduceToNat, reduceCtorEq, Int.reduceNeg, TF3, TF4, TF9, TF25, TF43, TF55, hlt])
      (have hq := div50_le (hok.2 x hmem).name; refine ⟨by omega, foC x, foR_get hx, rfl, ?_⟩; simp -implicitDefEqProofs only [EV, forall_const, implies_true, Nat.reduceAdd, Nat.reduceEqDiff, Nat.reduceBEq, Nat.reduceLeDiff, Nat.reduceSub, Nat.reduceMul, Int.reduceEq, Int.reduceLT, Int.reduceLE, Int.reduceSub, Int.reduceAdd, Int.reduceToNat, reduceCtorEq, Int.reduceNeg, TF3, TF4, TF9, TF25, TF43, TF55, hlt]; refine ⟨by unfold InR cap at *; omega, by omega, foC x, foR_get hx, rfl, ?_⟩; simp -implicitDefEqProofs only [EV, forall_const, implies_true, Nat.reduceAdd, Nat.reduceEqDiff, Nat.reduceBEq, Nat.reduceLeDiff, Nat.reduceSub, Nat.reduceMul, Int.reduceEq, Int.reduceLT, Int.reduceLE, Int.reduceSub, Int.reduceAdd, Int.reduceToNat, reduceCtorEq, Int.reduceNeg, TF3, TF4, TF9, TF25, TF43, TF55, hlt]; refine ⟨(by first | (unfold InR; omega) | (simp only [InR, sm, lim] at *; omega)), by unfold InR cap at *; omega, intV (x.bound.count (m + 1 + ((x.name.length / 50 : Nat) : Int))), .inl ⟨_, rfl, ok_Count04 _ _ (by omega) (by unfold cap at *; omega), rfl⟩, ?_⟩; simp -implicitDefEqProofs only [EV, forall_const, implies_true, Nat.reduceAdd, Nat.reduceEqDiff, Nat.reduceBEq, Nat.reduceLeDiff, Nat.reduceSub, Nat.reduceMul, Int.reduceEq, Int.reduceLT, Int.reduceLE, Int.reduceSub, Int.reduceAdd, Int.reduceToNat, reduceCtorEq, Int.reduceNeg, TF3, TF4, TF9, TF25, TF43, TF55, hlt])
      (refine hK _ _ ?_; clear hK K; try simp only [thenA, blockA, if_true])
      refine hK2 _ _ ?_
      clear hK2 K2
      (refine AWp.lastR [0, 1, 4, 5, 13] [] (by decide +kernel) fun K hK => ?_; simp -implicitDefEqProofs only [EV, forall_const, implies_true, Nat.reduceAdd, Nat.reduceEqDiff, Nat.reduceBEq, Nat.reduceLeDiff, Nat.reduceSub, Nat.reduceMul, Int.reduceEq, Int.reduceLT, Int.reduceLE, Int.reduceSub, Int.reduceAdd, Int.reduceToNat, reduceCtorEq, Int.reduceNeg, TF3, TF4, TF9, TF25, TF43, TF55])
      refine ⟨by unfold InR; unfold lim at *; omega, ?_⟩
      (refine hK _ _ ?_; clear hK K; try simp only [thenA, blockA, if_true])
      have hb := fo1_bd x m (hok.2 x hmem)
      exact ⟨(i + 1, x.bound.count (m + 1 + ((x.name.length / 50 : Nat) : Int))), ⟨by simp only; omega, by simp only; omega, by simp only; unfold cap; omega, heq⟩, by simp only; omega, by simp [sle, vle, sget], (by simp [ble, bget, exC, tyC, foC, paC, siC, deC, prC])⟩
    · rw [if_neg hm] at heq
      (refine AWp.seqR [0, 1, 4, 5, 13] [] (by decide +kernel) fun K hK => ?_; simp -implicitDefEqProofs only [EV, forall_const, implies_true, Nat.reduceAdd, Nat.reduceEqDiff, Nat.reduceBEq, Nat.reduceLeDiff, Nat.reduceSub, Nat.reduceMul, Int.reduceEq, Int.reduceLT, Int.reduceLE, Int.reduceSub, Int.reduceAdd, Int.reduceToNat, reduceCtorEq, Int.reduceNeg, TF3, TF4, TF9, TF25, TF43, TF55, hlt, hm]; refine hK _ _ ?_; clear hK K)
      refine AWp.condF rfl (AWp.exit ?_)
      simp only [thenA, blockA, if_true]
      exact fin _ _ (by simp [sle, vle, sget, heq]) (by simp [ble, bget, exC, tyC, foC, paC, siC, deC, prC])
  · refine AWp.seqK fun K2 hK2 => ?_
    (refine AWp.seqR [0, 1, 4, 5, 13] [] (by decide +kernel) fun K hK => ?_; simp -implicitDefEqProofs only [EV, forall_const, implies_true, Nat.reduceAdd, Nat.reduceEqDiff, Nat.reduceBEq, Nat.reduceLeDiff, Nat.reduceSub, Nat.reduceMul, Int.reduceEq, Int.reduceLT, Int.reduceLE, Int.reduceSub, Int.reduceAdd, Int.reduceToNat, reduceCtorEq, Int.reduceNeg, TF3, TF4, TF9, TF25, TF43, TF55, hlt]; refine hK _ _ ?_; clear hK K)
    refine AWp.condF rfl (AWp.exit ?_)
    simp only [thenA, blockA, if_true]
    rw [List.drop_eq_nil_of_le (by omega), foCount] at heq
    exact fin _ _ (by simp [sle, vle, sget, heq]) (by simp [ble, bget, exC, tyC, foC, paC, siC, deC, prC])
set_option maxRecDepth 100000 in
set_option maxHeartbeats 1000000 in
theorem ok_paCount (l : List Param) (n : Int) (h0 : 0 ≤ n) (h1 : n ≤ cap - 100000000000000) : CallOK Try.prog 32 [.d (.slice (paR l)), intV n] (intV (paCount l n)) := by
  refine CallB.bd (Enters.of Try.func32 rfl (by decide)) fun hbd => ?_
  have hok := pas_ok hbd.1
  have hl := hok.1
  (refine CallOK.of_body Try.func32 rfl (by decide) (by rw [Try.ntmps32]; simp) ?_; rw [Try.ntmps32])
  (refine AWp.seqR [0, 1, 4, 5, 13] [] (by decide +kernel) fun K hK => ?_; simp -implicitDefEqProofs only [EV, forall_const, implies_true, Nat.reduceAdd, Nat.reduceEqDiff, Nat.reduceBEq, Nat.reduceLeDiff, Nat.reduceSub, Nat.reduceMul, Int.reduceEq, Int.reduceLT, Int.reduceLE, Int.reduceSub, Int.reduceAdd, Int.reduceToNat, reduceCtorEq, Int.reduceNeg, TF3, TF4, TF9, TF25, TF44, TF53]; refine hK _ _ ?_; clear hK K)
  refine AWp.seqK fun K1 hK1 => ?_
  have fin : ∀ sl bx, sle sl [(1, intV (paCount l n))] → ble bx [] → K1 sl bx := by
    intro sl bx h1 h2
    refine hK1 _ _ (AWp.weaken h1 h2 ?_)
    clear hK1 K1
    (refine AWp.seqR [0, 1, 4, 5, 13] [] (by decide +kernel) fun K hK => ?_; simp -implicitDefEqProofs only [EV, forall_const, implies_true, Nat.reduceAdd, Nat.reduceEqDiff, Nat.reduceBEq, Nat.reduceLeDiff, Nat.reduceSub, Nat.reduceMul, Int.reduceEq, Int.reduceLT, Int.reduceLE, Int.reduceSub, Int.reduceAdd, Int.reduceToNat, reduceCtorEq, Int.reduceNeg, TF3, TF4, TF9, TF25, TF44, TF53]; refine hK _ _ ?_; clear hK K)
    exact AWp.ret ⟨_, by rw [Try.results32]; rfl, rfl⟩
  (refine AWp.seqR [0, 1, 4, 5, 13] [] (by decide +kernel) fun K hK => ?_; simp -implicitDefEqProofs only [EV, forall_const, implies_true, Nat.reduceAdd, Nat.reduceEqDiff, Nat.reduceBEq, Nat.reduceLeDiff, Nat.reduceSub, Nat.reduceMul, Int.reduceEq, Int.reduceLT, Int.reduceLE, Int.reduceSub, Int.reduceAdd, Int.reduceToNat, reduceCtorEq, Int.reduceNeg, TF3, TF4, TF9, TF25, TF44, TF53]; refine hK _ _ ?_; clear hK K)
  refine AWp.block (AWp.loop (X := Nat × Int) (fun x => [(1, intV x.2), (5, intV x.1), (0, .d (.slice (paR l)))]) (fun _ => [])
    (fun x => x.1 ≤ l.length ∧ 0 ≤ x.2 ∧ x.2 ≤ cap + 100000000000000 ∧ paCount (l.drop x.1) x.2 = paCount l n) (fun x => l.length - x.1) (0, n) ?_ ?_ ?_ ?_)
  · exact ⟨by simp, by omega, by unfold cap at *; omega, by first | rfl | simp⟩
  · simp [sle, vle, sget]
  · exact (by simp [ble, bget, exC, tyC, foC, paC, siC, deC, prC])
  rintro ⟨i, m⟩ ⟨hi, hm0, hm1, heq⟩
  simp only at hi hm0 hm1 heq
  by_cases hlt : (i : Int) < (l.length : Int)
  · have hlt' : i < l.length := by omega
    have hx : l[i]? = some l[i] := List.getElem?_eq_getElem hlt'
    have hmem : l[i] ∈ l := List.getElem_mem hlt'
    have hdrop : l.drop i = l[i] :: l.drop (i + 1) := List.drop_eq_getElem_cons hlt'
    generalize l[i] = x at *
    rw [hdrop, paCount] at heq
    refine AWp.seqK fun K2 hK2 => ?_
    by_cases hm : m ≤ 2000
    · rw [if_pos hm] at heq
      (refine AWp.seqR [0, 1, 4, 5, 13] [] (by decide +kernel) fun K hK => ?_; simp -implicitDefEqProofs only [EV, forall_const, implies_true, Nat.reduceAdd, Nat.reduceEqDiff, Nat.reduceBEq, Nat.reduceLeDiff, Nat.reduceSub, Nat.reduceMul, Int.reduceEq, Int.reduceLT, Int.reduceLE, Int.reduceSub, Int.reduceAdd, Int.reduceToNat, reduceCtorEq, Int.reduceNeg, TF3, TF4, TF9, TF25, TF44, TF53, hlt, hm]; refine hK _ _ ?_; clear hK K)
      refine AWp.condT rfl (AWp.skip (hK2 _ _ ?_))
      clear hK2 K2
      refine AWp.seqK fun K2 hK2 => ?_
      refine AWp.block ?_
      (refine AWp.lastD [0, 1, 4, 5, 13] [] 16 mixed (by decide +kernel) (by decide +kernel) fun K hK => ?_; simp -implicitDefEqProofs only [EV, forall_const, implies_true, Nat.reduceAdd, Nat.reduceEqDiff, Nat.reduceBEq, Nat.reduceLeDiff, Nat.reduceSub, Nat.reduceMul, Int.reduceEq, Int.reduceLT, Int.reduceLE, Int.reduceSub, Int.reduceAdd, Int.reduceToNat, reduceCtorEq, Int.reduceNeg, TF3, TF4, TF9, TF25, TF44, TF53, hlt])
      (have hq := div50_le (hok.2 x hmem).name; refine ⟨by omega, paC x, paR_get hx, rfl, ?_⟩; simp -implicitDefEqProofs only [EV, forall_const, implies_true, Nat.reduceAdd, Nat.reduceEqDiff, Nat.reduceBEq, Nat.reduceLeDiff, Nat.reduceSub, Nat.reduceMul, Int.reduceEq, Int.reduceLT, Int.reduceLE, Int.reduceSub, Int.reduceAdd, Int.reduceToNat, reduceCtorEq, Int.reduceNeg, TF3, TF4, TF9, TF25, TF44, TF53, hlt]; refine ⟨by unfold InR cap at *; omega, by omega, paC x, paR_get hx, rfl, ?_⟩; simp -implicitDefEqProofs only [EV, forall_const, implies_true, Nat.reduceAdd, Nat.reduceEqDiff, Nat.reduceBEq, Nat.reduceLeDiff, Nat.reduceSub, Nat.reduceMul, Int.reduceEq, Int.reduceLT, Int.reduceLE, Int.reduceSub, Int.reduceAdd, Int.reduceToNat, reduceCtorEq, Int.reduceNeg, TF3, TF4, TF9, TF25, TF44, TF53, hlt]; refine ⟨(by first | (unfold InR; omega) | (simp only [InR, sm, lim] at *; omega)), by unfold InR cap at *; omega, intV (x.type.count (m + 1 + ((x.name.length / 50 : Nat) : Int))), .inl ⟨_, rfl, ok_Count04 _ _ (by omega) (by unfold cap at *; omega), rfl⟩, ?_⟩; simp -implicitDefEqProofs only [EV, forall_const, implies_true, Nat.reduceAdd, Nat.reduceEqDiff, Nat.reduceBEq, Nat.reduceLeDiff, Nat.reduceSub, Nat.reduceMul, Int.reduceEq, Int.reduceLT, Int.reduceLE, Int.reduceSub, Int.reduceAdd, Int.reduceToNat, reduceCtorEq, Int.reduceNeg, TF3, TF4, TF9, TF25, TF44, TF53, hlt])
      (refine hK _ _ ?_; clear hK K; try simp only [thenA, blockA, if_true])
      refine hK2 _ _ ?_
      clear hK2 K2
      (refine AWp.lastR [0, 1, 4, 5, 13] [] (by decide +kernel) fun K hK => ?_; simp -implicitDefEqProofs only [EV, forall_const, implies_true, Nat.reduceAdd, Nat.reduceEqDiff, Nat.reduceBEq, Nat.reduceLeDiff, Nat.reduceSub, Nat.reduceMul, Int.reduceEq, Int.reduceLT, Int.reduceLE, Int.reduceSub, Int.reduceAdd, Int.reduceToNat, reduceCtorEq, Int.reduceNeg, TF3, TF4, TF9, TF25, TF44, TF53])
      refine ⟨by unfold InR; unfold lim at *; omega, ?_⟩
      (refine hK _ _ ?_; clear hK K; try simp only [thenA, blockA, if_true])
      have hb := pa1_bd x m (hok.2 x hmem)
      exact ⟨(i + 1, x.type.count (m + 1 + ((x.name.length / 50 : Nat) : Int))), ⟨by simp only; omega, by simp only; omega, by simp only; unfold cap; omega, heq⟩, by simp only; omega, by simp [sle, vle, sget], (by simp [ble, bget, exC, tyC, foC, paC, siC, deC, prC])⟩
    · rw [if_neg hm] at heq
      (refine AWp.seqR [0, 1, 4, 5, 13] [] (by decide +kernel) fun K hK => ?_; simp -implicitDefEqProofs only [EV, forall_const, implies_true, Nat.reduceAdd, Nat.reduceEqDiff, Nat.reduceBEq, Nat.reduceLeDiff, Nat.reduceSub, Nat.reduceMul, Int.reduceEq, Int.reduceLT, Int.reduceLE, Int.reduceSub, Int.reduceAdd, Int.reduceToNat, reduceCtorEq, Int.reduceNeg, TF3, TF4, TF9, TF25, TF44, TF53, hlt, hm]; refine hK _ _ ?_; clear hK K)
      refine AWp.condF rfl (AWp.exit ?_)
      simp only [thenA, blockA, if_true]
      exact fin _ _ (by simp [sle, vle, sget, heq]) (by simp [ble, bget, exC, tyC, foC, paC, siC, deC, prC])
  · refine AWp.seqK fun K2 hK2 => ?_
    (refine AWp.seqR [0, 1, 4, 5, 13] [] (by decide +kernel) fun K hK => ?_; simp -implicitDefEqProofs only [EV, forall_const, implies_true, Nat.reduceAdd, Nat.reduceEqDiff, Nat.reduceBEq, Nat.reduceLeDiff, Nat.reduceSub, Nat.reduceMul, Int.reduceEq, Int.reduceLT, Int.reduceLE, Int.reduceSub, Int.reduceAdd, Int.reduceToNat, reduceCtorEq, Int.reduceNeg, TF3, TF4, TF9, TF25, TF44, TF53, hlt]; refine hK _ _ ?_; clear hK K)
    refine AWp.condF rfl (AWp.exit ?_)
    simp only [thenA, blockA, if_true]
    rw [List.drop_eq_nil_of_le (by omega), paCount] at heq
    exact fin _ _ (by simp [sle, vle, sget, heq]) (by simp [ble, bget, exC, tyC, foC, paC, siC, deC, prC])

def Sig.count (s : Sig) (n : Int) : Int := s.result.count (paCount s.params (foCount s.formals (n + ((s.name.length / 50 : Nat) : Int))))
theorem Sig.count_bd (s : Sig) (n : Int) (h : s.Ok) : n ≤ s.count n ∧ s.count n ≤ max n 2000 + 10000000000000 := by
  have h1 := div50_le h.name
  have h2 := foCount_bd s.formals (n + ((s.name.length / 50 : Nat) : Int)) h.formals.2
  have h3 := paCount_bd s.params (foCount s.formals (n + ((s.name.length / 50 : Nat) : Int))) h.params.2
  have h4 := Ty.count_bd s.result (paCount s.params (foCount s.formals (n + ((s.name.length / 50 : Nat) : Int)))) h.result
  unfold Sig.count
  omega
set_option maxRecDepth 100000 in
set_option maxHeartbeats 1000000 in
theorem ok_countSig (s : Sig) (n : Int) (h0 : 0 ≤ n) (h1 : n ≤ cap - 200000000000000) : CallOK Try.prog 34 [siV s, intV n] (intV (s.count n)) := by
  refine CallB.bd (Enters.of Try.func34 rfl (by decide)) fun hbd => ?_
  have h := sig_ok hbd.1
  have hq := div50_le h.name
  have h2 := foCount_bd s.formals (n + ((s.name.length / 50 : Nat) : Int)) h.formals.2
  have h3 := paCount_bd s.params (foCount s.formals (n + ((s.name.length / 50 : Nat) : Int))) h.params.2
  (refine CallOK.of_body Try.func34 rfl (by decide) (by rw [Try.ntmps34]; simp) ?_; rw [Try.ntmps34])
  (refine AWp.seqR [0, 1, 2, 4] [] (by decide +kernel) fun K hK => ?_; simp -implicitDefEqProofs only [EV, forall_const, implies_true, Nat.reduceAdd, Nat.reduceEqDiff, Nat.reduceBEq, Nat.reduceLeDiff, Nat.reduceSub, Nat.reduceMul, Int.reduceEq, Int.reduceLT, Int.reduceLE, Int.reduceSub, Int.reduceAdd, Int.reduceToNat, reduceCtorEq, Int.reduceNeg, TF3, TF4, TF9, TF25, TF43, TF44, TF47, TF53, TF55]; refine hK _ _ ?_; clear hK K)
  (refine AWp.seqD [0, 1, 2, 4] [] 16 mixed (by decide +kernel) (by decide +kernel) fun K hK => ?_; simp -implicitDefEqProofs only [EV, forall_const, implies_true, Nat.reduceAdd, Nat.reduceEqDiff, Nat.reduceBEq, Nat.reduceLeDiff, Nat.reduceSub, Nat.reduceMul, Int.reduceEq, Int.reduceLT, Int.reduceLE, Int.reduceSub, Int.reduceAdd, Int.reduceToNat, reduceCtorEq, Int.reduceNeg, TF3, TF4, TF9, TF25, TF43, TF44, TF47, TF53, TF55])
  refine ⟨(by first | (unfold InR; omega) | (simp only [InR, sm, lim] at *; omega)), by unfold InR cap at *; omega, intV (foCount s.formals (n + ((s.name.length / 50 : Nat) : Int))), .inl ⟨_, rfl, ok_foCount _ _ (by omega) (by unfold cap at *; omega), rfl⟩, ?_⟩
  simp -implicitDefEqProofs only [EV, forall_const, implies_true, Nat.reduceAdd, Nat.reduceEqDiff, Nat.reduceBEq, Nat.reduceLeDiff, Nat.reduceSub, Nat.reduceMul, Int.reduceEq, Int.reduceLT, Int.reduceLE, Int.reduceSub, Int.reduceAdd, Int.reduceToNat, reduceCtorEq, Int.reduceNeg, TF3, TF4, TF9, TF25, TF43, TF44, TF47, TF53, TF55]
  refine ⟨intV (paCount s.params (foCount s.formals (n + ((s.name.length / 50 : Nat) : Int)))), .inl ⟨_, rfl, ok_paCount _ _ (by omega) (by unfold cap at *; omega), rfl⟩, ?_⟩
  simp -implicitDefEqProofs only [EV, forall_const, implies_true, Nat.reduceAdd, Nat.reduceEqDiff, Nat.reduceBEq, Nat.reduceLeDiff, Nat.reduceSub, Nat.reduceMul, Int.reduceEq, Int.reduceLT, Int.reduceLE, Int.reduceSub, Int.reduceAdd, Int.reduceToNat, reduceCtorEq, Int.reduceNeg, TF3, TF4, TF9, TF25, TF43, TF44, TF47, TF53, TF55]
  refine ⟨intV (s.count n), .inl ⟨_, rfl, ok_Count04 _ _ (by omega) (by unfold cap at *; omega), rfl⟩, ?_⟩
  simp -implicitDefEqProofs only [EV, forall_const, implies_true, Nat.reduceAdd, Nat.reduceEqDiff, Nat.reduceBEq, Nat.reduceLeDiff, Nat.reduceSub, Nat.reduceMul, Int.reduceEq, Int.reduceLT, Int.reduceLE, Int.reduceSub, Int.reduceAdd, Int.reduceToNat, reduceCtorEq, Int.reduceNeg, TF3, TF4, TF9, TF25, TF43, TF44, TF47, TF53, TF55]
  (refine hK _ _ ?_; clear hK K)
  exact AWp.ret ⟨_, by rw [Try.results34]; rfl, rfl⟩
end Go.Abs
