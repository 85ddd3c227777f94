/- castingsref04.Count -/
import Derived.Test.YtibfepggadjjgaaEnc
import Derived.Test.YtibfepggadjjgaaEV
import Derived.Test.YtibfepggadjjgaaTypes
namespace Go.Abs
set_option linter.unusedSimpArgs false
set_option linter.unusedVariables false
open Go Go.Proofs

mutual
def Ty.count : Ty → Int → Int
  | .mk n a _, k => Ty.countL a (k + 1 + ((n.length / 50 : Nat) : Int))
def Ty.countL : List Ty → Int → Int
  | [], k => k
  | t :: ts, k => if k ≤ 2000 then Ty.countL ts (t.count k) else k
end
theorem Ty.count_eq (t : Ty) (k : Int) : t.count k = Ty.countL t.args (k + 1 + ((t.name.length / 50 : Nat) : Int)) := by cases t; rfl

def cap : Int := 4611686018427387904
mutual
theorem Ty.count_bd : ∀ (t : Ty) (k : Int), t.Ok → k ≤ t.count k ∧ t.count k ≤ max k 2000 + 2814749767107
  | .mk n a p, k, h => by
    have hn : n.length ≤ lim := h.name
    have := Ty.countL_bd a (k + 1 + ((n.length / 50 : Nat) : Int)) (fun t ht => h.arg t ht)
    simp only [Ty.count]
    unfold lim at hn
    omega
theorem Ty.countL_bd : ∀ (l : List Ty) (k : Int), (∀ t, t ∈ l → t.Ok) → k ≤ Ty.countL l k ∧ Ty.countL l k ≤ max k (2000 + 2814749767107)
  | [], k, _ => by simp only [Ty.countL]; omega
  | t :: ts, k, h => by
    simp only [Ty.countL]
    split
    · have h1 := Ty.count_bd t k (h t (by simp))
      have h2 := Ty.countL_bd ts (t.count k) (fun u hu => h u (by simp [hu]))
      omega
    · omega
end

set_option maxHeartbeats 1000000 in
theorem ok_Count04 : ∀ (t : Ty) (n : Int), 0 ≤ n → n ≤ cap → CallOK Try.prog 27 [tyV t, intV n] (intV (t.count n)) := by
  intro t
  induction t using Ty.induct with
  | h t ih =>
  intro n h0 h1
  refine CallB.bd (Enters.of Try.func27 rfl (by decide)) fun hbd => ?_
  have hok := ty_ok hbd.1
  have hname := hok.name
  have hlen := hok.len
  have hq : t.name.length / 50 ≤ 2814749767106 := by unfold lim at hname; omega
  (refine CallOK.of_body Try.func27 rfl (by decide) (by rw [Try.ntmps27]; simp) ?_; rw [Try.ntmps27])
  (refine AWp.seqR [0, 1, 2, 4, 5, 21] [] (by decide +kernel) fun K hK => ?_; simp -implicitDefEqProofs only [EV, forall_const, implies_true, Nat.reduceAdd, Nat.reduceEqDiff, Nat.reduceBEq, Nat.reduceLeDiff, Nat.reduceSub, Nat.reduceMul, Int.reduceEq, Int.reduceLT, Int.reduceLE, Int.reduceSub, Int.reduceAdd, Int.reduceToNat, reduceCtorEq, Int.reduceNeg, TF3, TF4, TF9, TF23, TF25]; refine hK _ _ ?_; clear hK K)
  (refine AWp.seqR [0, 1, 2, 4, 5, 21] [] (by decide +kernel) fun K hK => ?_; simp -implicitDefEqProofs only [EV, forall_const, implies_true, Nat.reduceAdd, Nat.reduceEqDiff, Nat.reduceBEq, Nat.reduceLeDiff, Nat.reduceSub, Nat.reduceMul, Int.reduceEq, Int.reduceLT, Int.reduceLE, Int.reduceSub, Int.reduceAdd, Int.reduceToNat, reduceCtorEq, Int.reduceNeg, TF3, TF4, TF9, TF23, TF25])
  refine ⟨by unfold InR cap at *; omega, (by first | (unfold InR; omega) | (simp only [InR, sm, lim] at *; omega)), by unfold InR cap at *; omega, ?_⟩
  (refine hK _ _ ?_; clear hK K)
  refine AWp.seqK fun K1 hK1 => ?_
  (refine AWp.seqR [0, 1, 2, 4, 5, 21] [] (by decide +kernel) fun K hK => ?_; simp -implicitDefEqProofs only [EV, forall_const, implies_true, Nat.reduceAdd, Nat.reduceEqDiff, Nat.reduceBEq, Nat.reduceLeDiff, Nat.reduceSub, Nat.reduceMul, Int.reduceEq, Int.reduceLT, Int.reduceLE, Int.reduceSub, Int.reduceAdd, Int.reduceToNat, reduceCtorEq, Int.reduceNeg, TF3, TF4, TF9, TF23, TF25]; refine hK _ _ ?_; clear hK K)
  refine AWp.block (AWp.loop (X := Nat × Int) (fun x => [(1, intV x.2), (2, .box 2 0), (5, intV x.1)]) (fun _ => [(2, .cells [.d (.str t.name), .d (.slice (tyR t.args)), .d (.int .i64 t.pos)])])
    (fun x => x.1 ≤ t.args.length ∧ 0 ≤ x.2 ∧ x.2 ≤ cap + 2814749769108 ∧ Ty.countL (t.args.drop x.1) x.2 = t.count n) (fun x => t.args.length - x.1) (0, n + 1 + ((t.name.length / 50 : Nat) : Int)) ?_ ?_ ?_ ?_)
  · exact ⟨by simp, by omega, by unfold cap at *; omega, by rw [Ty.count_eq]; rfl⟩
  · simp [sle, vle, sget]
  · simp [ble, bget]
  rintro ⟨i, m⟩ ⟨hi, hm0, hm1, heq⟩
  simp only at hi hm0 hm1 heq
  have fin : ∀ z : Int, z = t.count n → K1 [(0, .undef), (1, intV z), (2, .box 2 0), (4, .undef), (5, intV i), (21, boolV false)] [(2, .cells [.d (.str t.name), .d (.slice (tyR t.args)), .d (.int .i64 t.pos)])] := by
    rintro z rfl
    refine hK1 _ _ ?_
    (refine AWp.seqR [0, 1, 2, 4, 5, 21] [] (by decide +kernel) fun K hK => ?_; simp -implicitDefEqProofs only [EV, forall_const, implies_true, Nat.reduceAdd, Nat.reduceEqDiff, Nat.reduceBEq, Nat.reduceLeDiff, Nat.reduceSub, Nat.reduceMul, Int.reduceEq, Int.reduceLT, Int.reduceLE, Int.reduceSub, Int.reduceAdd, Int.reduceToNat, reduceCtorEq, Int.reduceNeg, TF3, TF4, TF9, TF23, TF25]; refine hK _ _ ?_; clear hK K)
    exact AWp.ret ⟨_, by rw [Try.results27]; rfl, rfl⟩
  by_cases hlt : (i : Int) < (t.args.length : Int)
  · have hlt' : i < t.args.length := by omega
    have hx : t.args[i]? = some t.args[i] := List.getElem?_eq_getElem hlt'
    have hmem : t.args[i] ∈ t.args := List.getElem_mem hlt'
    have hdrop : t.args.drop i = t.args[i] :: t.args.drop (i + 1) := List.drop_eq_getElem_cons hlt'
    generalize t.args[i] = x at *
    rw [hdrop, Ty.countL] at heq
    refine AWp.seqK fun K2 hK2 => ?_
    by_cases hm : m ≤ 2000
    · rw [if_pos hm] at heq
      (refine AWp.seqR [0, 1, 2, 4, 5, 21] [] (by decide +kernel) fun K hK => ?_; simp -implicitDefEqProofs only [EV, forall_const, implies_true, Nat.reduceAdd, Nat.reduceEqDiff, Nat.reduceBEq, Nat.reduceLeDiff, Nat.reduceSub, Nat.reduceMul, Int.reduceEq, Int.reduceLT, Int.reduceLE, Int.reduceSub, Int.reduceAdd, Int.reduceToNat, reduceCtorEq, Int.reduceNeg, TF3, TF4, TF9, TF23, TF25, hlt, hm]; refine hK _ _ ?_; clear hK K)
      refine AWp.condT rfl (AWp.skip (hK2 _ _ ?_))
      clear hK2 K2
      refine AWp.seqK fun K2 hK2 => ?_
      refine AWp.block ?_
      (refine AWp.lastR [0, 1, 2, 4, 5, 21] [] (by decide +kernel) fun K hK => ?_; simp -implicitDefEqProofs only [EV, forall_const, implies_true, Nat.reduceAdd, Nat.reduceEqDiff, Nat.reduceBEq, Nat.reduceLeDiff, Nat.reduceSub, Nat.reduceMul, Int.reduceEq, Int.reduceLT, Int.reduceLE, Int.reduceSub, Int.reduceAdd, Int.reduceToNat, reduceCtorEq, Int.reduceNeg, TF3, TF4, TF9, TF23, TF25, hlt, tyC])
      refine ⟨by omega, tyC x, tyR_get hx, rfl, ?_⟩
      simp -implicitDefEqProofs only [EV, forall_const, implies_true, Nat.reduceAdd, Nat.reduceEqDiff, Nat.reduceBEq, Nat.reduceLeDiff, Nat.reduceSub, Nat.reduceMul, Int.reduceEq, Int.reduceLT, Int.reduceLE, Int.reduceSub, Int.reduceAdd, Int.reduceToNat, reduceCtorEq, Int.reduceNeg, TF3, TF4, TF9, TF23, TF25, hlt, tyC]
      refine ⟨intV (x.count m), .inl ⟨_, rfl, ih x hmem m hm0 (by unfold cap; omega), rfl⟩, ?_⟩
      simp -implicitDefEqProofs only [EV, forall_const, implies_true, Nat.reduceAdd, Nat.reduceEqDiff, Nat.reduceBEq, Nat.reduceLeDiff, Nat.reduceSub, Nat.reduceMul, Int.reduceEq, Int.reduceLT, Int.reduceLE, Int.reduceSub, Int.reduceAdd, Int.reduceToNat, reduceCtorEq, Int.reduceNeg, TF3, TF4, TF9, TF23, TF25, hlt, tyC]
      (refine hK _ _ ?_; clear hK K; try simp only [thenA, blockA, if_true])
      refine hK2 _ _ ?_
      clear hK2 K2
      (refine AWp.lastR [0, 1, 2, 4, 5, 21] [] (by decide +kernel) fun K hK => ?_; simp -implicitDefEqProofs only [EV, forall_const, implies_true, Nat.reduceAdd, Nat.reduceEqDiff, Nat.reduceBEq, Nat.reduceLeDiff, Nat.reduceSub, Nat.reduceMul, Int.reduceEq, Int.reduceLT, Int.reduceLE, Int.reduceSub, Int.reduceAdd, Int.reduceToNat, reduceCtorEq, Int.reduceNeg, TF3, TF4, TF9, TF23, TF25])
      refine ⟨by unfold InR; unfold lim at hlen; omega, ?_⟩
      (refine hK _ _ ?_; clear hK K; try simp only [thenA, blockA, if_true])
      have hb := Ty.count_bd x m (hok.arg x hmem)
      exact ⟨(i + 1, x.count m), ⟨by simp only; omega, by simp only; omega, by simp only; unfold cap; omega, heq⟩, by simp only; omega, by simp [sle, vle, sget], by simp [ble, bget]⟩
    · rw [if_neg hm] at heq
      (refine AWp.seqR [0, 1, 2, 4, 5, 21] [] (by decide +kernel) fun K hK => ?_; simp -implicitDefEqProofs only [EV, forall_const, implies_true, Nat.reduceAdd, Nat.reduceEqDiff, Nat.reduceBEq, Nat.reduceLeDiff, Nat.reduceSub, Nat.reduceMul, Int.reduceEq, Int.reduceLT, Int.reduceLE, Int.reduceSub, Int.reduceAdd, Int.reduceToNat, reduceCtorEq, Int.reduceNeg, TF3, TF4, TF9, TF23, TF25, hlt, hm]; refine hK _ _ ?_; clear hK K)
      refine AWp.condF rfl (AWp.exit ?_)
      simp only [thenA, blockA, if_true]
      exact fin m heq
  · refine AWp.seqK fun K2 hK2 => ?_
    (refine AWp.seqR [0, 1, 2, 4, 5, 21] [] (by decide +kernel) fun K hK => ?_; simp -implicitDefEqProofs only [EV, forall_const, implies_true, Nat.reduceAdd, Nat.reduceEqDiff, Nat.reduceBEq, Nat.reduceLeDiff, Nat.reduceSub, Nat.reduceMul, Int.reduceEq, Int.reduceLT, Int.reduceLE, Int.reduceSub, Int.reduceAdd, Int.reduceToNat, reduceCtorEq, Int.reduceNeg, TF3, TF4, TF9, TF23, TF25, hlt]; refine hK _ _ ?_; clear hK K)
    refine AWp.condF rfl (AWp.exit ?_)
    simp only [thenA, blockA, if_true]
    rw [List.drop_eq_nil_of_le (by omega), Ty.countL] at heq
    exact fin m heq
end Go.Abs
