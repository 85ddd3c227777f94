/- castingsref14.Put -/
import Derived.Test.YtibfepggadjjgaaF04
namespace Go.Abs
set_option linter.unusedSimpArgs false
set_option linter.unusedVariables false
open Go Go.Proofs

def ins (s : Str) : List Str → List Str
  | [] => [s]
  | x :: xs => if cmpS s x < 0 then s :: x :: xs else x :: ins s xs
def putS (l : List Str) (s : Str) : List Str := if s ∈ l then l else ins s l
theorem ins_len (s : Str) : ∀ l, (ins s l).length = l.length + 1
  | [] => rfl
  | x :: xs => by simp only [ins]; split <;> simp [ins_len s xs]

set_option maxRecDepth 100000 in
set_option maxHeartbeats 1000000 in
theorem ok_Put (l : List Str) (s : Str) (hlen : l.length ≤ 1000000) : CallOK Try.prog 19 [strsV l, strV s] (strsV (putS l s)) := by
  (refine CallOK.of_body Try.func19 rfl (by decide) (by rw [Try.ntmps19]; simp) ?_; rw [Try.ntmps19])
  (refine AWp.seqR [0, 1, 4, 5, 6, 7, 10, 15, 28, 41] [] (by decide +kernel) fun K hK => ?_; simp -implicitDefEqProofs only [EV, forall_const, implies_true, Nat.reduceAdd, Nat.reduceEqDiff, Nat.reduceBEq, Nat.reduceLeDiff, Nat.reduceSub, Nat.reduceMul, Int.reduceEq, Int.reduceLT, Int.reduceLE, Int.reduceSub, Int.reduceAdd, Int.reduceToNat, reduceCtorEq, Int.reduceNeg, TF3, TF4, TF9, TF33]; refine hK _ _ ?_; clear hK K)
  refine AWp.seqK fun K1 hK1 => ?_
  (refine AWp.seqR [0, 1, 4, 5, 6, 7, 10, 15, 28, 41] [] (by decide +kernel) fun K hK => ?_; simp -implicitDefEqProofs only [EV, forall_const, implies_true, Nat.reduceAdd, Nat.reduceEqDiff, Nat.reduceBEq, Nat.reduceLeDiff, Nat.reduceSub, Nat.reduceMul, Int.reduceEq, Int.reduceLT, Int.reduceLE, Int.reduceSub, Int.reduceAdd, Int.reduceToNat, reduceCtorEq, Int.reduceNeg, TF3, TF4, TF9, TF33])
  refine ⟨boolV (decide (s ∈ l)), .inl ⟨_, rfl, ok_In l s, rfl⟩, ?_⟩
  simp -implicitDefEqProofs only [EV, forall_const, implies_true, Nat.reduceAdd, Nat.reduceEqDiff, Nat.reduceBEq, Nat.reduceLeDiff, Nat.reduceSub, Nat.reduceMul, Int.reduceEq, Int.reduceLT, Int.reduceLE, Int.reduceSub, Int.reduceAdd, Int.reduceToNat, reduceCtorEq, Int.reduceNeg, TF3, TF4, TF9, TF33]
  (refine hK _ _ ?_; clear hK K)
  by_cases hin : s ∈ l
  · refine AWp.condT (by simp [opnd, sget, hin]) ?_
    (refine AWp.seqR [0, 1, 4, 5, 6, 7, 10, 15, 28, 41] [] (by decide +kernel) fun K hK => ?_; simp -implicitDefEqProofs only [EV, forall_const, implies_true, Nat.reduceAdd, Nat.reduceEqDiff, Nat.reduceBEq, Nat.reduceLeDiff, Nat.reduceSub, Nat.reduceMul, Int.reduceEq, Int.reduceLT, Int.reduceLE, Int.reduceSub, Int.reduceAdd, Int.reduceToNat, reduceCtorEq, Int.reduceNeg, TF3, TF4, TF9, TF33]; refine hK _ _ ?_; clear hK K)
    rw [putS, if_pos hin]
    exact AWp.ret ⟨_, by rw [Try.results19]; rfl, rfl⟩
  refine AWp.condF (by simp [opnd, sget, hin]) (AWp.skip (hK1 _ _ ?_))
  clear hK1 K1
  (refine AWp.seqR [0, 1, 4, 5, 6, 7, 10, 15, 28, 41] [] (by decide +kernel) fun K hK => ?_; simp -implicitDefEqProofs only [EV, forall_const, implies_true, Nat.reduceAdd, Nat.reduceEqDiff, Nat.reduceBEq, Nat.reduceLeDiff, Nat.reduceSub, Nat.reduceMul, Int.reduceEq, Int.reduceLT, Int.reduceLE, Int.reduceSub, Int.reduceAdd, Int.reduceToNat, reduceCtorEq, Int.reduceNeg, TF3, TF4, TF9, TF33]; refine hK _ _ ?_; clear hK K)
  (refine AWp.seqR [0, 1, 4, 5, 6, 7, 10, 15, 28, 41] [] (by decide +kernel) fun K hK => ?_; simp -implicitDefEqProofs only [EV, forall_const, implies_true, Nat.reduceAdd, Nat.reduceEqDiff, Nat.reduceBEq, Nat.reduceLeDiff, Nat.reduceSub, Nat.reduceMul, Int.reduceEq, Int.reduceLT, Int.reduceLE, Int.reduceSub, Int.reduceAdd, Int.reduceToNat, reduceCtorEq, Int.reduceNeg, TF3, TF4, TF9, TF33]; refine hK _ _ ?_; clear hK K)
  refine AWp.promote 5 1 5 rfl ?_
  refine AWp.seqK fun K1 hK1 => ?_
  have fin : ∀ sl bx (b : Bool) r, sle sl [(1, strV s), (5, .acc 5), (6, boolV b)] → ble bx [(5, .rows 1 (strR r))] → r.length ≤ l.length + 1 → (if b then r else r ++ [s]) = ins s l → K1 sl bx := by
    intro sl bx b r h1 h2 hr hb
    refine hK1 _ _ (AWp.weaken h1 h2 ?_)
    clear hK1 K1 h1 h2
    refine AWp.seqK fun K1 hK1 => ?_
    (refine AWp.seqR [0, 1, 4, 5, 6, 7, 10, 15, 28, 41] [] (by decide +kernel) fun K hK => ?_; simp -implicitDefEqProofs only [EV, forall_const, implies_true, Nat.reduceAdd, Nat.reduceEqDiff, Nat.reduceBEq, Nat.reduceLeDiff, Nat.reduceSub, Nat.reduceMul, Int.reduceEq, Int.reduceLT, Int.reduceLE, Int.reduceSub, Int.reduceAdd, Int.reduceToNat, reduceCtorEq, Int.reduceNeg, TF3, TF4, TF9, TF33]; refine hK _ _ ?_; clear hK K)
    cases b with
    | true =>
      refine AWp.condF rfl (AWp.skip (hK1 _ _ ?_))
      clear hK1 K1
      (refine AWp.seqR [0, 1, 4, 5, 6, 7, 10, 15, 28, 41] [] (by decide +kernel) fun K hK => ?_; simp -implicitDefEqProofs only [EV, forall_const, implies_true, Nat.reduceAdd, Nat.reduceEqDiff, Nat.reduceBEq, Nat.reduceLeDiff, Nat.reduceSub, Nat.reduceMul, Int.reduceEq, Int.reduceLT, Int.reduceLE, Int.reduceSub, Int.reduceAdd, Int.reduceToNat, reduceCtorEq, Int.reduceNeg, TF3, TF4, TF9, TF33]; refine hK _ _ ?_; clear hK K)
      simp only [if_true] at hb
      rw [putS, if_neg hin, ← hb]
      exact AWp.ret ⟨_, by rw [Try.results19]; rfl, rfl⟩
    | false =>
      refine AWp.condT rfl ?_
      (refine AWp.lastR [0, 1, 4, 5, 6, 7, 10, 15, 28, 41] [] (by decide +kernel) fun K hK => ?_; simp -implicitDefEqProofs only [EV, forall_const, implies_true, Nat.reduceAdd, Nat.reduceEqDiff, Nat.reduceBEq, Nat.reduceLeDiff, Nat.reduceSub, Nat.reduceMul, Int.reduceEq, Int.reduceLT, Int.reduceLE, Int.reduceSub, Int.reduceAdd, Int.reduceToNat, reduceCtorEq, Int.reduceNeg, TF3, TF4, TF9, TF33])
      refine ⟨by simp, by unfold lim; omega, ?_⟩
      (refine hK _ _ ?_; clear hK K; try simp only [thenA, blockA, if_true])
      refine hK1 _ _ ?_
      clear hK1 K1
      (refine AWp.seqR [0, 1, 4, 5, 6, 7, 10, 15, 28, 41] [] (by decide +kernel) fun K hK => ?_; simp -implicitDefEqProofs only [EV, forall_const, implies_true, Nat.reduceAdd, Nat.reduceEqDiff, Nat.reduceBEq, Nat.reduceLeDiff, Nat.reduceSub, Nat.reduceMul, Int.reduceEq, Int.reduceLT, Int.reduceLE, Int.reduceSub, Int.reduceAdd, Int.reduceToNat, reduceCtorEq, Int.reduceNeg, TF3, TF4, TF9, TF33]; refine hK _ _ ?_; clear hK K)
      have e : strR r ++ [[D.str s]] = strR (r ++ [s]) := by simp [strR]
      simp only [Bool.false_eq_true, if_false] at hb
      rw [putS, if_neg hin, ← hb, e]
      exact AWp.ret ⟨_, by rw [Try.results19]; rfl, rfl⟩
  (refine AWp.seqR [0, 1, 4, 5, 6, 7, 10, 15, 28, 41] [] (by decide +kernel) fun K hK => ?_; simp -implicitDefEqProofs only [EV, forall_const, implies_true, Nat.reduceAdd, Nat.reduceEqDiff, Nat.reduceBEq, Nat.reduceLeDiff, Nat.reduceSub, Nat.reduceMul, Int.reduceEq, Int.reduceLT, Int.reduceLE, Int.reduceSub, Int.reduceAdd, Int.reduceToNat, reduceCtorEq, Int.reduceNeg, TF3, TF4, TF9, TF33]; refine hK _ _ ?_; clear hK K)
  refine AWp.block (AWp.loop (X := Nat × Bool × List Str) (fun x => [(7, intV x.1), (0, strsV l), (1, strV s), (5, .acc 5), (6, boolV x.2.1)]) (fun x => [(5, .rows 1 (strR x.2.2))])
    (fun x => x.1 ≤ l.length ∧ x.2.2 ++ (if x.2.1 then l.drop x.1 else ins s (l.drop x.1)) = ins s l) (fun x => l.length - x.1) (0, false, []) ?_ ?_ ?_ ?_)
  · exact ⟨by simp, by simp⟩
  · exact (by simp [sle, vle, sget])
  · simp [ble, bget, strR]
  rintro ⟨j, b, r⟩ ⟨hj, heq⟩
  simp only at hj heq
  have hrl := congrArg List.length heq
  simp only [List.length_append, ins_len] at hrl
  have hr0 : r.length = if b then j + 1 else j := by
    cases b
    · simp only [Bool.false_eq_true, if_false, ins_len, List.length_drop] at hrl ⊢; omega
    · simp only [if_true, List.length_drop] at hrl ⊢; omega
  clear hrl
  by_cases hlt : (j : Int) < (l.length : Int)
  · have hlt' : j < l.length := by omega
    have hy : l[j]? = some l[j] := List.getElem?_eq_getElem hlt'
    have hdrop : l.drop j = l[j] :: l.drop (j + 1) := List.drop_eq_getElem_cons hlt'
    generalize l[j] = y at *
    rw [hdrop] at heq
    refine AWp.seqK fun K2 hK2 => ?_
    (refine AWp.seqR [0, 1, 4, 5, 6, 7, 10, 15, 28, 41] [] (by decide +kernel) fun K hK => ?_; simp -implicitDefEqProofs only [EV, forall_const, implies_true, Nat.reduceAdd, Nat.reduceEqDiff, Nat.reduceBEq, Nat.reduceLeDiff, Nat.reduceSub, Nat.reduceMul, Int.reduceEq, Int.reduceLT, Int.reduceLE, Int.reduceSub, Int.reduceAdd, Int.reduceToNat, reduceCtorEq, Int.reduceNeg, TF3, TF4, TF9, TF33, hlt]; refine hK _ _ ?_; clear hK K)
    refine AWp.condT rfl (AWp.skip (hK2 _ _ ?_))
    clear hK2 K2
    refine AWp.seqK fun K2 hK2 => ?_
    refine AWp.block ?_
    refine AWp.seqK fun K3 hK3 => ?_
    have fin2 : ∀ sl bx (b' : Bool) r', sle sl [(7, intV j), (0, strsV l), (1, strV s), (5, .acc 5), (6, boolV b')] → ble bx [(5, .rows 1 (strR r'))] → r'.length ≤ l.length → r' ++ y :: (if b' then l.drop (j + 1) else ins s (l.drop (j + 1))) = ins s l → K3 sl bx := by
      intro sl bx b' r' h1 h2 hr' h3
      refine hK3 _ _ (AWp.weaken h1 h2 ?_)
      clear hK3 K3 h1 h2
      (refine AWp.lastR [0, 1, 4, 5, 6, 7, 10, 15, 28, 41] [] (by decide +kernel) fun K hK => ?_; simp -implicitDefEqProofs only [EV, forall_const, implies_true, Nat.reduceAdd, Nat.reduceEqDiff, Nat.reduceBEq, Nat.reduceLeDiff, Nat.reduceSub, Nat.reduceMul, Int.reduceEq, Int.reduceLT, Int.reduceLE, Int.reduceSub, Int.reduceAdd, Int.reduceToNat, reduceCtorEq, Int.reduceNeg, TF3, TF4, TF9, TF33, hlt])
      refine ⟨by omega, _, strR_get hy, rfl, ?_⟩
      simp -implicitDefEqProofs only [EV, forall_const, implies_true, Nat.reduceAdd, Nat.reduceEqDiff, Nat.reduceBEq, Nat.reduceLeDiff, Nat.reduceSub, Nat.reduceMul, Int.reduceEq, Int.reduceLT, Int.reduceLE, Int.reduceSub, Int.reduceAdd, Int.reduceToNat, reduceCtorEq, Int.reduceNeg, TF3, TF4, TF9, TF33, hlt]
      refine ⟨by simp, by unfold lim; omega, ?_⟩
      (refine hK _ _ ?_; clear hK K; try simp only [thenA, blockA, if_true])
      refine hK2 _ _ ?_
      clear hK2 K2
      (refine AWp.lastR [0, 1, 4, 5, 6, 7, 10, 15, 28, 41] [] (by decide +kernel) fun K hK => ?_; simp -implicitDefEqProofs only [EV, forall_const, implies_true, Nat.reduceAdd, Nat.reduceEqDiff, Nat.reduceBEq, Nat.reduceLeDiff, Nat.reduceSub, Nat.reduceMul, Int.reduceEq, Int.reduceLT, Int.reduceLE, Int.reduceSub, Int.reduceAdd, Int.reduceToNat, reduceCtorEq, Int.reduceNeg, TF3, TF4, TF9, TF33])
      refine ⟨by unfold InR; omega, ?_⟩
      (refine hK _ _ ?_; clear hK K; try simp only [thenA, blockA, if_true])
      exact ⟨(j + 1, b', r' ++ [y]), ⟨by simp only; omega, by simpa using h3⟩, by simp only; omega, by simp [sle, vle, sget], by simp [ble, bget, strR]⟩
    clear hK3 hK2
    cases b with
    | true =>
      simp only [if_true] at heq hr0
      (refine AWp.seqR [0, 1, 4, 5, 6, 7, 10, 15, 28, 41] [] (by decide +kernel) fun K hK => ?_; simp -implicitDefEqProofs only [EV, forall_const, implies_true, Nat.reduceAdd, Nat.reduceEqDiff, Nat.reduceBEq, Nat.reduceLeDiff, Nat.reduceSub, Nat.reduceMul, Int.reduceEq, Int.reduceLT, Int.reduceLE, Int.reduceSub, Int.reduceAdd, Int.reduceToNat, reduceCtorEq, Int.reduceNeg, TF3, TF4, TF9, TF33, hlt]; refine hK _ _ ?_; clear hK K)
      refine AWp.condF rfl (AWp.skip ?_)
      simp only [thenA, blockA, if_true]
      exact fin2 _ _ true r (by simp [sle, vle, sget]) (by simp [ble, bget, exC, tyC, foC, paC, siC, deC, prC]) (by omega) heq
    | false =>
      simp only [Bool.false_eq_true, if_false, ins] at heq hr0
      (refine AWp.seqR [0, 1, 4, 5, 6, 7, 10, 15, 28, 41] [] (by decide +kernel) fun K hK => ?_; simp -implicitDefEqProofs only [EV, forall_const, implies_true, Nat.reduceAdd, Nat.reduceEqDiff, Nat.reduceBEq, Nat.reduceLeDiff, Nat.reduceSub, Nat.reduceMul, Int.reduceEq, Int.reduceLT, Int.reduceLE, Int.reduceSub, Int.reduceAdd, Int.reduceToNat, reduceCtorEq, Int.reduceNeg, TF3, TF4, TF9, TF33, hlt])
      refine ⟨by omega, _, strR_get hy, rfl, ?_⟩
      simp -implicitDefEqProofs only [EV, forall_const, implies_true, Nat.reduceAdd, Nat.reduceEqDiff, Nat.reduceBEq, Nat.reduceLeDiff, Nat.reduceSub, Nat.reduceMul, Int.reduceEq, Int.reduceLT, Int.reduceLE, Int.reduceSub, Int.reduceAdd, Int.reduceToNat, reduceCtorEq, Int.reduceNeg, TF3, TF4, TF9, TF33, hlt]
      refine ⟨intV (cmpS s y), .inl ⟨_, rfl, ok_Compare s y, rfl⟩, ?_⟩
      simp -implicitDefEqProofs only [EV, forall_const, implies_true, Nat.reduceAdd, Nat.reduceEqDiff, Nat.reduceBEq, Nat.reduceLeDiff, Nat.reduceSub, Nat.reduceMul, Int.reduceEq, Int.reduceLT, Int.reduceLE, Int.reduceSub, Int.reduceAdd, Int.reduceToNat, reduceCtorEq, Int.reduceNeg, TF3, TF4, TF9, TF33, hlt]
      (refine hK _ _ ?_; clear hK K)
      by_cases hc : cmpS s y < 0
      · rw [if_pos hc] at heq
        refine AWp.condT (by simp [opnd, sget, hc]) ?_
        have hr2 : r.length ≤ l.length := by omega
        have e : strR r ++ [[D.str s]] = strR (r ++ [s]) := by simp [strR]
        (refine AWp.seqR [0, 1, 4, 5, 6, 7, 10, 15, 28, 41] [] (by decide +kernel) fun K hK => ?_; simp -implicitDefEqProofs only [EV, forall_const, implies_true, Nat.reduceAdd, Nat.reduceEqDiff, Nat.reduceBEq, Nat.reduceLeDiff, Nat.reduceSub, Nat.reduceMul, Int.reduceEq, Int.reduceLT, Int.reduceLE, Int.reduceSub, Int.reduceAdd, Int.reduceToNat, reduceCtorEq, Int.reduceNeg, TF3, TF4, TF9, TF33])
        refine ⟨by simp, by unfold lim; omega, ?_⟩
        rw [e]
        (refine hK _ _ ?_; clear hK K)
        (refine AWp.lastR [0, 1, 4, 5, 6, 7, 10, 15, 28, 41] [] (by decide +kernel) fun K hK => ?_; simp -implicitDefEqProofs only [EV, forall_const, implies_true, Nat.reduceAdd, Nat.reduceEqDiff, Nat.reduceBEq, Nat.reduceLeDiff, Nat.reduceSub, Nat.reduceMul, Int.reduceEq, Int.reduceLT, Int.reduceLE, Int.reduceSub, Int.reduceAdd, Int.reduceToNat, reduceCtorEq, Int.reduceNeg, TF3, TF4, TF9, TF33]; refine hK _ _ ?_; clear hK K; try simp only [thenA, blockA, if_true])
        exact fin2 _ _ true (r ++ [s]) (by simp [sle, vle, sget]) (by simp [ble, bget, exC, tyC, foC, paC, siC, deC, prC]) (by simp only [List.length_append, List.length_cons, List.length_nil]; omega) (by simpa using heq)
      · rw [if_neg hc] at heq
        refine AWp.condF (by simp [opnd, sget, hc]) (AWp.skip ?_)
        simp only [thenA, blockA, if_true]
        exact fin2 _ _ false r (by simp [sle, vle, sget]) (by simp [ble, bget, exC, tyC, foC, paC, siC, deC, prC]) (by omega) (by simpa using heq)
  · refine AWp.seqK fun K2 hK2 => ?_
    (refine AWp.seqR [0, 1, 4, 5, 6, 7, 10, 15, 28, 41] [] (by decide +kernel) fun K hK => ?_; simp -implicitDefEqProofs only [EV, forall_const, implies_true, Nat.reduceAdd, Nat.reduceEqDiff, Nat.reduceBEq, Nat.reduceLeDiff, Nat.reduceSub, Nat.reduceMul, Int.reduceEq, Int.reduceLT, Int.reduceLE, Int.reduceSub, Int.reduceAdd, Int.reduceToNat, reduceCtorEq, Int.reduceNeg, TF3, TF4, TF9, TF33, hlt]; refine hK _ _ ?_; clear hK K)
    refine AWp.condF rfl (AWp.exit ?_)
    simp only [thenA, blockA, if_true]
    rw [List.drop_eq_nil_of_le (by omega)] at heq
    exact fin _ _ b r (by simp [sle, vle, sget]) (by simp [ble, bget, exC, tyC, foC, paC, siC, deC, prC]) (by cases b <;> simp only [if_true, Bool.false_eq_true, if_false] at hr0 <;> omega) (by rw [← heq]; cases b <;> simp [ins])
end Go.Abs
