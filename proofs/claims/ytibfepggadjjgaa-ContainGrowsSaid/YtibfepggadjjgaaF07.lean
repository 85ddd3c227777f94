/- castingsref14.Reach -/
import Derived.Test.YtibfepggadjjgaaF06
namespace Go.Abs
set_option linter.unusedSimpArgs false
set_option linter.unusedVariables false
open Go Go.Proofs

mutual
theorem sub_structs {p : Prog} {x : Str} : ∀ (t : Ty) {l : List Str}, x ∈ l → x ∈ t.structs p l
  | .mk n a q, l, h => by
    simp only [Ty.structs]
    split
    · exact sub_structsL a (mem_putS.2 (.inr h))
    · exact h
theorem sub_structsL {p : Prog} {x : Str} : ∀ (ts : List Ty) {l : List Str}, x ∈ l → x ∈ Ty.structsL p ts l
  | [], _, h => h
  | t :: ts, _, h => sub_structsL ts (sub_structs t h)
end
theorem sub_fields {p : Prog} {x : Str} : ∀ (fs : List Param) {l : List Str}, x ∈ l → x ∈ fieldsS p fs l
  | [], _, h => h
  | t :: ts, _, h => sub_fields ts (sub_structs t.type h)
theorem sub_cont {p : Prog} {x nm : Str} {l : List Str} (h : x ∈ l) : x ∈ contS p nm l := by
  unfold contS
  split
  · split
    · exact sub_fields _ h
    · exact h
  · exact h
theorem cont_len {p : Prog} {l : List Str} (nm : Str) (h : Win p l) : l.length ≤ (contS p nm l).length := nodup_len h.nodup fun _ => sub_cont

def roundS (p : Prog) : List Nat → List Str → List Str
  | [], r => r
  | i :: is, r => roundS p is (contS p (r[i]?.getD []) r)
def loopS (p : Prog) : Nat → Int → List Str → List Str
  | 0, _, r => r
  | k + 1, n, r => if n = r.length then r else loopS p k r.length (roundS p (List.range' 0 r.length) r)
def reachS (p : Prog) (nm : Str) : List Str := loopS p 100003 (-1) (contS p nm [])
theorem Win.round {p : Prog} : ∀ (is : List Nat) {l : List Str}, Win p l → Win p (roundS p is l)
  | [], _, h => h
  | _ :: is, _, h => Win.round is (h.cont _)
theorem sub_round {p : Prog} {x : Str} : ∀ (is : List Nat) {l : List Str}, x ∈ l → x ∈ roundS p is l
  | [], _, h => h
  | _ :: is, _, h => sub_round is (sub_cont h)
theorem round_len {p : Prog} {l : List Str} (is : List Nat) (h : Win p l) : l.length ≤ (roundS p is l).length := nodup_len h.nodup fun _ => sub_round is

set_option maxRecDepth 100000 in
set_option maxHeartbeats 1000000 in
theorem ok_Reach (p : Prog) (hp : p.decls.length ≤ 100000) (nm : Str) : CallOK Try.prog 9 [prV p, strV nm] (strsV (reachS p nm)) := by
  refine CallB.bd (Enters.of Try.func9 rfl (by decide)) fun hbd => ?_
  (refine CallOK.of_body Try.func9 rfl (by decide) (by rw [Try.ntmps9]; simp) ?_; rw [Try.ntmps9])
  (refine AWp.seqR [0, 1, 2, 4, 5, 6, 7, 14, 19] [] (by decide +kernel) fun K hK => ?_; simp -implicitDefEqProofs only [EV, forall_const, implies_true, Nat.reduceAdd, Nat.reduceEqDiff, Nat.reduceBEq, Nat.reduceLeDiff, Nat.reduceSub, Nat.reduceMul, Int.reduceEq, Int.reduceLT, Int.reduceLE, Int.reduceSub, Int.reduceAdd, Int.reduceToNat, reduceCtorEq, Int.reduceNeg, TF3, TF4, TF9, TF30, TF33]; refine hK _ _ ?_; clear hK K)
  (refine AWp.seqR [0, 1, 2, 4, 5, 6, 7, 14, 19] [] (by decide +kernel) fun K hK => ?_; simp -implicitDefEqProofs only [EV, forall_const, implies_true, Nat.reduceAdd, Nat.reduceEqDiff, Nat.reduceBEq, Nat.reduceLeDiff, Nat.reduceSub, Nat.reduceMul, Int.reduceEq, Int.reduceLT, Int.reduceLE, Int.reduceSub, Int.reduceAdd, Int.reduceToNat, reduceCtorEq, Int.reduceNeg, TF3, TF4, TF9, TF30, TF33])
  refine ⟨strsV (contS p nm []), .inl ⟨_, rfl, ok_Contains p hp nm [] (Win.nil p), rfl⟩, ?_⟩
  simp -implicitDefEqProofs only [EV, forall_const, implies_true, Nat.reduceAdd, Nat.reduceEqDiff, Nat.reduceBEq, Nat.reduceLeDiff, Nat.reduceSub, Nat.reduceMul, Int.reduceEq, Int.reduceLT, Int.reduceLE, Int.reduceSub, Int.reduceAdd, Int.reduceToNat, reduceCtorEq, Int.reduceNeg, TF3, TF4, TF9, TF30, TF33]
  (refine hK _ _ ?_; clear hK K)
  refine AWp.seqK fun K1 hK1 => ?_
  have fin : ∀ sl bx, sle sl [(5, strsV (reachS p nm))] → K1 sl bx := by
    intro sl bx h1
    refine hK1 _ _ (AWp.weaken (bx' := []) h1 trivial ?_)
    clear hK1 K1
    (refine AWp.seqR [0, 1, 2, 4, 5, 6, 7, 14, 19] [] (by decide +kernel) fun K hK => ?_; simp -implicitDefEqProofs only [EV, forall_const, implies_true, Nat.reduceAdd, Nat.reduceEqDiff, Nat.reduceBEq, Nat.reduceLeDiff, Nat.reduceSub, Nat.reduceMul, Int.reduceEq, Int.reduceLT, Int.reduceLE, Int.reduceSub, Int.reduceAdd, Int.reduceToNat, reduceCtorEq, Int.reduceNeg, TF3, TF4, TF9, TF30, TF33]; refine hK _ _ ?_; clear hK K)
    exact AWp.ret ⟨_, by rw [Try.results9]; rfl, rfl⟩
  clear hK1
  (refine AWp.seqR [0, 1, 2, 4, 5, 6, 7, 14, 19] [] (by decide +kernel) fun K hK => ?_; simp -implicitDefEqProofs only [EV, forall_const, implies_true, Nat.reduceAdd, Nat.reduceEqDiff, Nat.reduceBEq, Nat.reduceLeDiff, Nat.reduceSub, Nat.reduceMul, Int.reduceEq, Int.reduceLT, Int.reduceLE, Int.reduceSub, Int.reduceAdd, Int.reduceToNat, reduceCtorEq, Int.reduceNeg, TF3, TF4, TF9, TF30, TF33]; refine hK _ _ ?_; clear hK K)
  refine AWp.block (AWp.loop (X := Nat × Int × List Str) (fun x => [(5, strsV x.2.2), (6, intV x.2.1), (2, .box 2 0)]) (fun _ => [(2, .cells ((prC p).map .d))])
    (fun x => -1 ≤ x.2.1 ∧ x.2.1 ≤ x.2.2.length ∧ Win p x.2.2 ∧ 100001 - x.2.1 ≤ x.1 ∧ loopS p x.1 x.2.1 x.2.2 = reachS p nm) (fun x => (100001 - x.2.1).toNat) (100003, -1, contS p nm []) ?_ ?_ ?_ ?_)
  · exact ⟨by simp, by simp only; omega, (Win.nil p).cont nm, by simp, rfl⟩
  · exact (by simp [sle, vle, sget])
  · exact (by simp [ble, bget, exC, tyC, foC, paC, siC, deC, prC])
  rintro ⟨k, n, r⟩ ⟨hn0, hn1, hr, hk, heq⟩
  simp only at hn0 hn1 hr hk heq
  have hlen := hr.len
  obtain ⟨k, rfl⟩ : ∃ k', k = k' + 1 := ⟨k - 1, by omega⟩
  rw [loopS] at heq
  by_cases hlt : n = (r.length : Int)
  · rw [if_pos hlt] at heq
    refine AWp.seqK fun K2 hK2 => ?_
    (refine AWp.seqR [0, 1, 2, 4, 5, 6, 7, 14, 19] [] (by decide +kernel) fun K hK => ?_; simp -implicitDefEqProofs only [EV, forall_const, implies_true, Nat.reduceAdd, Nat.reduceEqDiff, Nat.reduceBEq, Nat.reduceLeDiff, Nat.reduceSub, Nat.reduceMul, Int.reduceEq, Int.reduceLT, Int.reduceLE, Int.reduceSub, Int.reduceAdd, Int.reduceToNat, reduceCtorEq, Int.reduceNeg, TF3, TF4, TF9, TF30, TF33, hlt]; refine hK _ _ ?_; clear hK K)
    refine AWp.condF (by simp [opnd, sget]) (AWp.exit ?_)
    simp only [thenA, blockA, if_true]
    exact fin _ _ (by simp [sle, vle, sget, heq])
  · rw [if_neg hlt] at heq
    refine AWp.seqK fun K2 hK2 => ?_
    (refine AWp.seqR [0, 1, 2, 4, 5, 6, 7, 14, 19] [] (by decide +kernel) fun K hK => ?_; simp -implicitDefEqProofs only [EV, forall_const, implies_true, Nat.reduceAdd, Nat.reduceEqDiff, Nat.reduceBEq, Nat.reduceLeDiff, Nat.reduceSub, Nat.reduceMul, Int.reduceEq, Int.reduceLT, Int.reduceLE, Int.reduceSub, Int.reduceAdd, Int.reduceToNat, reduceCtorEq, Int.reduceNeg, TF3, TF4, TF9, TF30, TF33, hlt]; refine hK _ _ ?_; clear hK K)
    refine AWp.condT (by simp [opnd, sget]) (AWp.skip (hK2 _ _ ?_))
    clear hK2 K2
    refine AWp.block ?_
    (refine AWp.seqR [0, 1, 2, 4, 5, 6, 7, 14, 19] [] (by decide +kernel) fun K hK => ?_; simp -implicitDefEqProofs only [EV, forall_const, implies_true, Nat.reduceAdd, Nat.reduceEqDiff, Nat.reduceBEq, Nat.reduceLeDiff, Nat.reduceSub, Nat.reduceMul, Int.reduceEq, Int.reduceLT, Int.reduceLE, Int.reduceSub, Int.reduceAdd, Int.reduceToNat, reduceCtorEq, Int.reduceNeg, TF3, TF4, TF9, TF30, TF33]; refine hK _ _ ?_; clear hK K)
    (refine AWp.seqR [0, 1, 2, 4, 5, 6, 7, 14, 19] [] (by decide +kernel) fun K hK => ?_; simp -implicitDefEqProofs only [EV, forall_const, implies_true, Nat.reduceAdd, Nat.reduceEqDiff, Nat.reduceBEq, Nat.reduceLeDiff, Nat.reduceSub, Nat.reduceMul, Int.reduceEq, Int.reduceLT, Int.reduceLE, Int.reduceSub, Int.reduceAdd, Int.reduceToNat, reduceCtorEq, Int.reduceNeg, TF3, TF4, TF9, TF30, TF33]; refine hK _ _ ?_; clear hK K)
    have hr2 := hr.round (List.range' 0 r.length)
    have hr3 := round_len (List.range' 0 r.length) hr
    refine AWp.block (AWp.loop (X := Nat × List Str) (fun x => [(5, strsV x.2), (6, intV r.length), (7, intV x.1), (2, .box 2 0)]) (fun _ => [(2, .cells ((prC p).map .d))])
      (fun x => x.1 ≤ r.length ∧ r.length ≤ x.2.length ∧ Win p x.2 ∧ roundS p (List.range' x.1 (r.length - x.1)) x.2 = roundS p (List.range' 0 r.length) r) (fun x => r.length - x.1) (0, r) ?_ ?_ ?_ ?_)
    · exact ⟨by simp, by simp, hr, rfl⟩
    · exact (by simp [sle, vle, sget])
    · exact (by simp [ble, bget, exC, tyC, foC, paC, siC, deC, prC])
    rintro ⟨j, r'⟩ ⟨hj, hrl, hrw, hreq⟩
    simp only at hj hrl hrw hreq
    by_cases hlt2 : (j : Int) < (r.length : Int)
    · have hlt2' : j < r'.length := by omega
      have hx : r'[j]? = some r'[j] := List.getElem?_eq_getElem hlt2'
      obtain ⟨m, hm⟩ : ∃ m, r.length - j = m + 1 := ⟨r.length - j - 1, by omega⟩
      rw [hm, List.range'_succ, roundS, hx, Option.getD_some] at hreq
      generalize r'[j] = x at *
      refine AWp.seqK fun K2 hK2 => ?_
      (refine AWp.seqR [0, 1, 2, 4, 5, 6, 7, 14, 19] [] (by decide +kernel) fun K hK => ?_; simp -implicitDefEqProofs only [EV, forall_const, implies_true, Nat.reduceAdd, Nat.reduceEqDiff, Nat.reduceBEq, Nat.reduceLeDiff, Nat.reduceSub, Nat.reduceMul, Int.reduceEq, Int.reduceLT, Int.reduceLE, Int.reduceSub, Int.reduceAdd, Int.reduceToNat, reduceCtorEq, Int.reduceNeg, TF3, TF4, TF9, TF30, TF33, hlt2]; refine hK _ _ ?_; clear hK K)
      refine AWp.condT rfl (AWp.skip (hK2 _ _ ?_))
      clear hK2 K2
      refine AWp.seqK fun K2 hK2 => ?_
      refine AWp.block ?_
      (refine AWp.lastD [0, 1, 2, 4, 5, 6, 7, 14, 19] [] 7 mixed (by decide +kernel) (by decide +kernel) fun K hK => ?_; simp -implicitDefEqProofs only [EV, forall_const, implies_true, Nat.reduceAdd, Nat.reduceEqDiff, Nat.reduceBEq, Nat.reduceLeDiff, Nat.reduceSub, Nat.reduceMul, Int.reduceEq, Int.reduceLT, Int.reduceLE, Int.reduceSub, Int.reduceAdd, Int.reduceToNat, reduceCtorEq, Int.reduceNeg, TF3, TF4, TF9, TF30, TF33, hlt2])
      refine ⟨by omega, _, strR_get hx, rfl, ?_⟩
      simp -implicitDefEqProofs only [EV, forall_const, implies_true, Nat.reduceAdd, Nat.reduceEqDiff, Nat.reduceBEq, Nat.reduceLeDiff, Nat.reduceSub, Nat.reduceMul, Int.reduceEq, Int.reduceLT, Int.reduceLE, Int.reduceSub, Int.reduceAdd, Int.reduceToNat, reduceCtorEq, Int.reduceNeg, TF3, TF4, TF9, TF30, TF33, hlt2]
      refine ⟨strsV (contS p x r'), .inl ⟨_, rfl, ok_Contains p hp x r' hrw, rfl⟩, ?_⟩
      simp -implicitDefEqProofs only [EV, forall_const, implies_true, Nat.reduceAdd, Nat.reduceEqDiff, Nat.reduceBEq, Nat.reduceLeDiff, Nat.reduceSub, Nat.reduceMul, Int.reduceEq, Int.reduceLT, Int.reduceLE, Int.reduceSub, Int.reduceAdd, Int.reduceToNat, reduceCtorEq, Int.reduceNeg, TF3, TF4, TF9, TF30, TF33, hlt2]
      (refine hK _ _ ?_; clear hK K; try simp only [thenA, blockA, if_true])
      refine hK2 _ _ ?_
      clear hK2 K2
      (refine AWp.lastR [0, 1, 2, 4, 5, 6, 7, 14, 19] [] (by decide +kernel) fun K hK => ?_; simp -implicitDefEqProofs only [EV, forall_const, implies_true, Nat.reduceAdd, Nat.reduceEqDiff, Nat.reduceBEq, Nat.reduceLeDiff, Nat.reduceSub, Nat.reduceMul, Int.reduceEq, Int.reduceLT, Int.reduceLE, Int.reduceSub, Int.reduceAdd, Int.reduceToNat, reduceCtorEq, Int.reduceNeg, TF3, TF4, TF9, TF30, TF33])
      refine ⟨by unfold InR; omega, ?_⟩
      (refine hK _ _ ?_; clear hK K; try simp only [thenA, blockA, if_true])
      have hc := cont_len x hrw
      exact ⟨(j + 1, contS p x r'), ⟨by simp only; omega, by simp only; omega, hrw.cont x, by simp only; rw [show r.length - (j + 1) = m by omega]; exact hreq⟩, by simp only; omega, by simp [sle, vle, sget], (by simp [ble, bget, exC, tyC, foC, paC, siC, deC, prC])⟩
    · refine AWp.seqK fun K2 hK2 => ?_
      (refine AWp.seqR [0, 1, 2, 4, 5, 6, 7, 14, 19] [] (by decide +kernel) fun K hK => ?_; simp -implicitDefEqProofs only [EV, forall_const, implies_true, Nat.reduceAdd, Nat.reduceEqDiff, Nat.reduceBEq, Nat.reduceLeDiff, Nat.reduceSub, Nat.reduceMul, Int.reduceEq, Int.reduceLT, Int.reduceLE, Int.reduceSub, Int.reduceAdd, Int.reduceToNat, reduceCtorEq, Int.reduceNeg, TF3, TF4, TF9, TF30, TF33, hlt2]; refine hK _ _ ?_; clear hK K)
      refine AWp.condF rfl (AWp.exit ?_)
      simp only [thenA, blockA, if_true]
      rw [show r.length - j = 0 by omega] at hreq
      simp only [List.range'_zero, roundS] at hreq
      subst hreq
      exact ⟨(k, r.length, roundS p (List.range' 0 r.length) r), ⟨by simp only; omega, by simp only; omega, hr2, by simp only; omega, heq⟩, by simp only; omega, by simp [sle, vle, sget], (by simp [ble, bget, exC, tyC, foC, paC, siC, deC, prC])⟩
end Go.Abs
