/- The laws of layer 14 as functions: ContainAll returns true -/
import Derived.Test.YtibfepggadjjgaaG14
namespace Go.Abs
set_option linter.unusedSimpArgs false
set_option linter.unusedVariables false
open Go Go.Proofs
set_option maxRecDepth 100000
set_option maxHeartbeats 1000000

theorem mem_wantAll {p : Prog} (hp : p.decls.length ≤ 100000) {x : Str} : x ∈ wantF p p.decls [] ↔ Way p x x := by
  rw [mem_want hp]
  constructor
  · rintro (h | h)
    · simp at h
    · exact h.1
  · intro h
    obtain ⟨d, hd, hn⟩ := List.mem_map.1 (kindOf_mem h.isS)
    exact .inr ⟨h, d, hd, hn⟩
theorem putS_len (l : List Str) (s : Str) : (putS l s).length ≤ l.length + 1 := by
  unfold putS; split
  · omega
  · rw [ins_len]; omega
theorem law_A (p : Prog) : CallOK Try.prog 5 [prV p] (boolV true) := by
  (refine CallOK.of_body Try.func5 rfl (by decide) (by rw [Try.ntmps5]; simp) ?_; rw [Try.ntmps5])
  (refine AWp.seqR [0, 1, 2, 3, 4, 5, 6, 7, 8, 15, 21, 38, 52, 56, 68, 90] [] (by decide +kernel) fun K hK => ?_; simp -implicitDefEqProofs only [EV, forall_const, implies_true, Nat.reduceAdd, Nat.reduceEqDiff, Nat.reduceBEq, Nat.reduceLeDiff, Nat.reduceSub, Nat.reduceMul, Int.reduceEq, Int.reduceLT, Int.reduceLE, Int.reduceSub, Int.reduceAdd, Int.reduceToNat, reduceCtorEq, Int.reduceNeg, TF3, TF4, TF9, TF22, TF30, TF33, TF49]; refine hK _ _ ?_; clear hK K)
  refine AWp.seqK fun K1 hK1 => ?_
  have hfew := ok_Few06 p
  by_cases hf : p.count ≤ 600
  rotate_left
  · rw [decide_eq_false hf] at hfew
    (refine AWp.seqR [0, 1, 2, 3, 4, 5, 6, 7, 8, 15, 21, 38, 52, 56, 68, 90] [] (by decide +kernel) fun K hK => ?_; simp -implicitDefEqProofs only [EV, forall_const, implies_true, Nat.reduceAdd, Nat.reduceEqDiff, Nat.reduceBEq, Nat.reduceLeDiff, Nat.reduceSub, Nat.reduceMul, Int.reduceEq, Int.reduceLT, Int.reduceLE, Int.reduceSub, Int.reduceAdd, Int.reduceToNat, reduceCtorEq, Int.reduceNeg, TF3, TF4, TF9, TF22, TF30, TF33, TF49]; refine ⟨_, .inl ⟨_, rfl, ok_awake, rfl⟩, ?_⟩; (try simp -implicitDefEqProofs only [EV, forall_const, implies_true, Nat.reduceAdd, Nat.reduceEqDiff, Nat.reduceBEq, Nat.reduceLeDiff, Nat.reduceSub, Nat.reduceMul, Int.reduceEq, Int.reduceLT, Int.reduceLE, Int.reduceSub, Int.reduceAdd, Int.reduceToNat, reduceCtorEq, Int.reduceNeg, TF3, TF4, TF9, TF22, TF30, TF33, TF49]); refine ⟨_, .inl ⟨_, rfl, hfew, rfl⟩, ?_⟩; (try simp -implicitDefEqProofs only [EV, forall_const, implies_true, Nat.reduceAdd, Nat.reduceEqDiff, Nat.reduceBEq, Nat.reduceLeDiff, Nat.reduceSub, Nat.reduceMul, Int.reduceEq, Int.reduceLT, Int.reduceLE, Int.reduceSub, Int.reduceAdd, Int.reduceToNat, reduceCtorEq, Int.reduceNeg, TF3, TF4, TF9, TF22, TF30, TF33, TF49]); refine hK _ _ ?_; clear hK K)
    refine AWp.takeIfK rfl ?_
    (refine AWp.seqR [0, 1, 2, 3, 4, 5, 6, 7, 8, 15, 21, 38, 52, 56, 68, 90] [] (by decide +kernel) fun K hK => ?_; simp -implicitDefEqProofs only [EV, forall_const, implies_true, Nat.reduceAdd, Nat.reduceEqDiff, Nat.reduceBEq, Nat.reduceLeDiff, Nat.reduceSub, Nat.reduceMul, Int.reduceEq, Int.reduceLT, Int.reduceLE, Int.reduceSub, Int.reduceAdd, Int.reduceToNat, reduceCtorEq, Int.reduceNeg, TF3, TF4, TF9, TF22, TF30, TF33, TF49]; refine ⟨_, .inl ⟨_, rfl, ok_awake, rfl⟩, ?_⟩; (try simp -implicitDefEqProofs only [EV, forall_const, implies_true, Nat.reduceAdd, Nat.reduceEqDiff, Nat.reduceBEq, Nat.reduceLeDiff, Nat.reduceSub, Nat.reduceMul, Int.reduceEq, Int.reduceLT, Int.reduceLE, Int.reduceSub, Int.reduceAdd, Int.reduceToNat, reduceCtorEq, Int.reduceNeg, TF3, TF4, TF9, TF22, TF30, TF33, TF49]); refine hK _ _ ?_; clear hK K)
    exact AWp.ret ⟨_, by rw [Try.results5]; rfl, rfl⟩
  obtain ⟨hsm, hlen⟩ := p.count_sm hf
  have hp : p.decls.length ≤ 100000 := by omega
  have hc := Cs.of hsm hp
  rw [decide_eq_true hf] at hfew
  (refine AWp.seqR [0, 1, 2, 3, 4, 5, 6, 7, 8, 15, 21, 38, 52, 56, 68, 90] [] (by decide +kernel) fun K hK => ?_; simp -implicitDefEqProofs only [EV, forall_const, implies_true, Nat.reduceAdd, Nat.reduceEqDiff, Nat.reduceBEq, Nat.reduceLeDiff, Nat.reduceSub, Nat.reduceMul, Int.reduceEq, Int.reduceLT, Int.reduceLE, Int.reduceSub, Int.reduceAdd, Int.reduceToNat, reduceCtorEq, Int.reduceNeg, TF3, TF4, TF9, TF22, TF30, TF33, TF49]; refine ⟨_, .inl ⟨_, rfl, ok_awake, rfl⟩, ?_⟩; (try simp -implicitDefEqProofs only [EV, forall_const, implies_true, Nat.reduceAdd, Nat.reduceEqDiff, Nat.reduceBEq, Nat.reduceLeDiff, Nat.reduceSub, Nat.reduceMul, Int.reduceEq, Int.reduceLT, Int.reduceLE, Int.reduceSub, Int.reduceAdd, Int.reduceToNat, reduceCtorEq, Int.reduceNeg, TF3, TF4, TF9, TF22, TF30, TF33, TF49]); refine ⟨_, .inl ⟨_, rfl, hfew, rfl⟩, ?_⟩; (try simp -implicitDefEqProofs only [EV, forall_const, implies_true, Nat.reduceAdd, Nat.reduceEqDiff, Nat.reduceBEq, Nat.reduceLeDiff, Nat.reduceSub, Nat.reduceMul, Int.reduceEq, Int.reduceLT, Int.reduceLE, Int.reduceSub, Int.reduceAdd, Int.reduceToNat, reduceCtorEq, Int.reduceNeg, TF3, TF4, TF9, TF22, TF30, TF33, TF49]); refine hK _ _ ?_; clear hK K)
  refine AWp.skipIfK rfl hK1 ?_
  clear hK1 K1
  (refine AWp.seqR [0, 1, 2, 3, 4, 5, 6, 7, 8, 15, 21, 38, 52, 56, 68, 90] [] (by decide +kernel) fun K hK => ?_; simp -implicitDefEqProofs only [EV, forall_const, implies_true, Nat.reduceAdd, Nat.reduceEqDiff, Nat.reduceBEq, Nat.reduceLeDiff, Nat.reduceSub, Nat.reduceMul, Int.reduceEq, Int.reduceLT, Int.reduceLE, Int.reduceSub, Int.reduceAdd, Int.reduceToNat, reduceCtorEq, Int.reduceNeg, TF3, TF4, TF9, TF22, TF30, TF33, TF49]; refine hK _ _ ?_; clear hK K)
  refine AWp.seqK fun K1 hK1 => ?_
  (refine AWp.seqR [0, 1, 2, 3, 4, 5, 6, 7, 8, 15, 21, 38, 52, 56, 68, 90] [] (by decide +kernel) fun K hK => ?_; simp -implicitDefEqProofs only [EV, forall_const, implies_true, Nat.reduceAdd, Nat.reduceEqDiff, Nat.reduceBEq, Nat.reduceLeDiff, Nat.reduceSub, Nat.reduceMul, Int.reduceEq, Int.reduceLT, Int.reduceLE, Int.reduceSub, Int.reduceAdd, Int.reduceToNat, reduceCtorEq, Int.reduceNeg, TF3, TF4, TF9, TF22, TF30, TF33, TF49]; refine hK _ _ ?_; clear hK K)
  refine AWp.block (AWp.forIdx p.decls (fun j w => [(1, .box 1 0), (3, strsV w), (4, intV j)]) (fun _ _ => [(1, .cells ((prC p).map .d))])
    (fun j w => w.length ≤ j ∧ wantF p (p.decls.drop j) w = wantF p p.decls []) [] ⟨by simp, rfl⟩ (by simp [sle, vle, sget, strR]) (by simp [ble, bget, prC]) ?_ ?_)
  rotate_left
  · rintro j w d hd hmem hdrop _ hlt ⟨h1, hI⟩
    rw [hdrop, wantF] at hI
    refine AWp.seqK fun K2 hK2 => ?_
    (refine AWp.seqR [0, 1, 2, 3, 4, 5, 6, 7, 8, 15, 21, 38, 52, 56, 68, 90] [] (by decide +kernel) fun K hK => ?_; simp -implicitDefEqProofs only [EV, forall_const, implies_true, Nat.reduceAdd, Nat.reduceEqDiff, Nat.reduceBEq, Nat.reduceLeDiff, Nat.reduceSub, Nat.reduceMul, Int.reduceEq, Int.reduceLT, Int.reduceLE, Int.reduceSub, Int.reduceAdd, Int.reduceToNat, reduceCtorEq, Int.reduceNeg, TF3, TF4, TF9, TF22, TF30, TF33, TF49, hlt]; refine hK _ _ ?_; clear hK K)
    refine AWp.goOnK rfl hK2 ?_
    clear hK2 K2
    refine AWp.seqK fun K2 hK2 => ?_
    refine AWp.block ?_
    (refine AWp.seqD [0, 1, 2, 3, 4, 5, 6, 7, 8, 15, 21, 38, 52, 56, 68, 90] [] 15 mixed (by decide +kernel) (by decide +kernel) fun K hK => ?_; simp -implicitDefEqProofs only [EV, forall_const, implies_true, Nat.reduceAdd, Nat.reduceEqDiff, Nat.reduceBEq, Nat.reduceLeDiff, Nat.reduceSub, Nat.reduceMul, Int.reduceEq, Int.reduceLT, Int.reduceLE, Int.reduceSub, Int.reduceAdd, Int.reduceToNat, reduceCtorEq, Int.reduceNeg, TF3, TF4, TF9, TF22, TF30, TF33, TF49]; refine ⟨by omega, _, deR_get hd, rfl, ?_⟩; (try simp -implicitDefEqProofs only [EV, forall_const, implies_true, Nat.reduceAdd, Nat.reduceEqDiff, Nat.reduceBEq, Nat.reduceLeDiff, Nat.reduceSub, Nat.reduceMul, Int.reduceEq, Int.reduceLT, Int.reduceLE, Int.reduceSub, Int.reduceAdd, Int.reduceToNat, reduceCtorEq, Int.reduceNeg, TF3, TF4, TF9, TF22, TF30, TF33, TF49]); refine ⟨_, .inl ⟨_, rfl, ok_Reach p hp d.name, rfl⟩, ?_⟩; (try simp -implicitDefEqProofs only [EV, forall_const, implies_true, Nat.reduceAdd, Nat.reduceEqDiff, Nat.reduceBEq, Nat.reduceLeDiff, Nat.reduceSub, Nat.reduceMul, Int.reduceEq, Int.reduceLT, Int.reduceLE, Int.reduceSub, Int.reduceAdd, Int.reduceToNat, reduceCtorEq, Int.reduceNeg, TF3, TF4, TF9, TF22, TF30, TF33, TF49]); refine ⟨by omega, _, deR_get hd, rfl, ?_⟩; (try simp -implicitDefEqProofs only [EV, forall_const, implies_true, Nat.reduceAdd, Nat.reduceEqDiff, Nat.reduceBEq, Nat.reduceLeDiff, Nat.reduceSub, Nat.reduceMul, Int.reduceEq, Int.reduceLT, Int.reduceLE, Int.reduceSub, Int.reduceAdd, Int.reduceToNat, reduceCtorEq, Int.reduceNeg, TF3, TF4, TF9, TF22, TF30, TF33, TF49]); refine ⟨_, .inl ⟨_, rfl, ok_In (reachS p d.name) d.name, rfl⟩, ?_⟩; (try simp -implicitDefEqProofs only [EV, forall_const, implies_true, Nat.reduceAdd, Nat.reduceEqDiff, Nat.reduceBEq, Nat.reduceLeDiff, Nat.reduceSub, Nat.reduceMul, Int.reduceEq, Int.reduceLT, Int.reduceLE, Int.reduceSub, Int.reduceAdd, Int.reduceToNat, reduceCtorEq, Int.reduceNeg, TF3, TF4, TF9, TF22, TF30, TF33, TF49]); refine hK _ _ ?_; clear hK K)
    refine AWp.cond rfl (fun hb => ?_) (fun hb => ?_)
    · rw [if_pos (by simpa using hb)] at hI
      (refine AWp.lastR [0, 1, 2, 3, 4, 5, 6, 7, 8, 15, 21, 38, 52, 56, 68, 90] [] (by decide +kernel) fun K hK => ?_; simp -implicitDefEqProofs only [EV, forall_const, implies_true, Nat.reduceAdd, Nat.reduceEqDiff, Nat.reduceBEq, Nat.reduceLeDiff, Nat.reduceSub, Nat.reduceMul, Int.reduceEq, Int.reduceLT, Int.reduceLE, Int.reduceSub, Int.reduceAdd, Int.reduceToNat, reduceCtorEq, Int.reduceNeg, TF3, TF4, TF9, TF22, TF30, TF33, TF49]; refine ⟨by omega, _, deR_get hd, rfl, ?_⟩; (try simp -implicitDefEqProofs only [EV, forall_const, implies_true, Nat.reduceAdd, Nat.reduceEqDiff, Nat.reduceBEq, Nat.reduceLeDiff, Nat.reduceSub, Nat.reduceMul, Int.reduceEq, Int.reduceLT, Int.reduceLE, Int.reduceSub, Int.reduceAdd, Int.reduceToNat, reduceCtorEq, Int.reduceNeg, TF3, TF4, TF9, TF22, TF30, TF33, TF49]); refine ⟨_, .inl ⟨_, rfl, ok_Put w d.name (by omega), rfl⟩, ?_⟩; (try simp -implicitDefEqProofs only [EV, forall_const, implies_true, Nat.reduceAdd, Nat.reduceEqDiff, Nat.reduceBEq, Nat.reduceLeDiff, Nat.reduceSub, Nat.reduceMul, Int.reduceEq, Int.reduceLT, Int.reduceLE, Int.reduceSub, Int.reduceAdd, Int.reduceToNat, reduceCtorEq, Int.reduceNeg, TF3, TF4, TF9, TF22, TF30, TF33, TF49]); refine hK _ _ ?_; clear hK K; try simp only [thenA, blockA, if_true])
      refine hK2 _ _ ?_
      clear hK2 K2
      (refine AWp.lastR [0, 1, 2, 3, 4, 5, 6, 7, 8, 15, 21, 38, 52, 56, 68, 90] [] (by decide +kernel) fun K hK => ?_; simp -implicitDefEqProofs only [EV, forall_const, implies_true, Nat.reduceAdd, Nat.reduceEqDiff, Nat.reduceBEq, Nat.reduceLeDiff, Nat.reduceSub, Nat.reduceMul, Int.reduceEq, Int.reduceLT, Int.reduceLE, Int.reduceSub, Int.reduceAdd, Int.reduceToNat, reduceCtorEq, Int.reduceNeg, TF3, TF4, TF9, TF22, TF30, TF33, TF49]; refine ⟨by first | (unfold InR; omega) | (simp only [InR, sm, lim] at *; omega), ?_⟩; (try simp -implicitDefEqProofs only [EV, forall_const, implies_true, Nat.reduceAdd, Nat.reduceEqDiff, Nat.reduceBEq, Nat.reduceLeDiff, Nat.reduceSub, Nat.reduceMul, Int.reduceEq, Int.reduceLT, Int.reduceLE, Int.reduceSub, Int.reduceAdd, Int.reduceToNat, reduceCtorEq, Int.reduceNeg, TF3, TF4, TF9, TF22, TF30, TF33, TF49]); refine hK _ _ ?_; clear hK K; try simp only [thenA, blockA, if_true])
      have := putS_len w d.name
      exact ⟨putS w d.name, ⟨by omega, hI⟩, (by simp [sle, vle, sget]), by simp [ble, bget, prC]⟩
    · rw [if_neg (by simpa using hb)] at hI
      refine AWp.skip ?_
      simp only [thenA, blockA, if_true]
      refine hK2 _ _ ?_
      clear hK2 K2
      (refine AWp.lastR [0, 1, 2, 3, 4, 5, 6, 7, 8, 15, 21, 38, 52, 56, 68, 90] [] (by decide +kernel) fun K hK => ?_; simp -implicitDefEqProofs only [EV, forall_const, implies_true, Nat.reduceAdd, Nat.reduceEqDiff, Nat.reduceBEq, Nat.reduceLeDiff, Nat.reduceSub, Nat.reduceMul, Int.reduceEq, Int.reduceLT, Int.reduceLE, Int.reduceSub, Int.reduceAdd, Int.reduceToNat, reduceCtorEq, Int.reduceNeg, TF3, TF4, TF9, TF22, TF30, TF33, TF49]; refine ⟨by first | (unfold InR; omega) | (simp only [InR, sm, lim] at *; omega), ?_⟩; (try simp -implicitDefEqProofs only [EV, forall_const, implies_true, Nat.reduceAdd, Nat.reduceEqDiff, Nat.reduceBEq, Nat.reduceLeDiff, Nat.reduceSub, Nat.reduceMul, Int.reduceEq, Int.reduceLT, Int.reduceLE, Int.reduceSub, Int.reduceAdd, Int.reduceToNat, reduceCtorEq, Int.reduceNeg, TF3, TF4, TF9, TF22, TF30, TF33, TF49]); refine hK _ _ ?_; clear hK K; try simp only [thenA, blockA, if_true])
      exact ⟨w, ⟨by omega, hI⟩, (by simp [sle, vle, sget]), by simp [ble, bget, prC]⟩
  rintro w ⟨hwl, hI⟩
  rw [List.drop_length, wantF] at hI
  subst hI
  refine AWp.seqK fun K2 hK2 => ?_
  (refine AWp.seqR [0, 1, 2, 3, 4, 5, 6, 7, 8, 15, 21, 38, 52, 56, 68, 90] [] (by decide +kernel) fun K hK => ?_; simp -implicitDefEqProofs only [EV, forall_const, implies_true, Nat.reduceAdd, Nat.reduceEqDiff, Nat.reduceBEq, Nat.reduceLeDiff, Nat.reduceSub, Nat.reduceMul, Int.reduceEq, Int.reduceLT, Int.reduceLE, Int.reduceSub, Int.reduceAdd, Int.reduceToNat, reduceCtorEq, Int.reduceNeg, TF3, TF4, TF9, TF22, TF30, TF33, TF49, Int.lt_irrefl]; refine hK _ _ ?_; clear hK K)
  refine AWp.stopK rfl ?_
  simp only [thenA, blockA, if_true]
  refine hK1 _ _ ?_
  clear hK1 K1 hK2 K2
  (refine AWp.seqR [0, 1, 2, 3, 4, 5, 6, 7, 8, 15, 21, 38, 52, 56, 68, 90] [] (by decide +kernel) fun K hK => ?_; simp -implicitDefEqProofs only [EV, forall_const, implies_true, Nat.reduceAdd, Nat.reduceEqDiff, Nat.reduceBEq, Nat.reduceLeDiff, Nat.reduceSub, Nat.reduceMul, Int.reduceEq, Int.reduceLT, Int.reduceLE, Int.reduceSub, Int.reduceAdd, Int.reduceToNat, reduceCtorEq, Int.reduceNeg, TF3, TF4, TF9, TF22, TF30, TF33, TF49]; refine ⟨_, .inl ⟨_, rfl, hc.all, rfl⟩, ?_⟩; (try simp -implicitDefEqProofs only [EV, forall_const, implies_true, Nat.reduceAdd, Nat.reduceEqDiff, Nat.reduceBEq, Nat.reduceLeDiff, Nat.reduceSub, Nat.reduceMul, Int.reduceEq, Int.reduceLT, Int.reduceLE, Int.reduceSub, Int.reduceAdd, Int.reduceToNat, reduceCtorEq, Int.reduceNeg, TF3, TF4, TF9, TF22, TF30, TF33, TF49]); refine hK _ _ ?_; clear hK K)
  refine AWp.seqK fun K1 hK1 => ?_
  (refine AWp.seqR [0, 1, 2, 3, 4, 5, 6, 7, 8, 15, 21, 38, 52, 56, 68, 90] [] (by decide +kernel) fun K hK => ?_; simp -implicitDefEqProofs only [EV, forall_const, implies_true, Nat.reduceAdd, Nat.reduceEqDiff, Nat.reduceBEq, Nat.reduceLeDiff, Nat.reduceSub, Nat.reduceMul, Int.reduceEq, Int.reduceLT, Int.reduceLE, Int.reduceSub, Int.reduceAdd, Int.reduceToNat, reduceCtorEq, Int.reduceNeg, TF3, TF4, TF9, TF22, TF30, TF33, TF49]; refine ⟨_, .inl ⟨_, rfl, eqT _, rfl⟩, ?_⟩; (try simp -implicitDefEqProofs only [EV, forall_const, implies_true, Nat.reduceAdd, Nat.reduceEqDiff, Nat.reduceBEq, Nat.reduceLeDiff, Nat.reduceSub, Nat.reduceMul, Int.reduceEq, Int.reduceLT, Int.reduceLE, Int.reduceSub, Int.reduceAdd, Int.reduceToNat, reduceCtorEq, Int.reduceNeg, TF3, TF4, TF9, TF22, TF30, TF33, TF49]); refine hK _ _ ?_; clear hK K)
  refine AWp.skipIfK rfl hK1 ?_
  clear hK1 K1
  have key : ∀ x, x ∈ wantF p p.decls [] → ∀ y, y ∈ reachS p x → x ∈ reachS p y → y ∈ wantF p p.decls [] := by
    intro x _ y hy hxy
    rw [(reachS_spec p hp _).2] at hy hxy
    exact (mem_wantAll hp).2 (hxy.trans hy)
  have hLl : (wantF p p.decls []).length ≤ sm := Nat.le_trans hwl hsm.decls.1
  generalize wantF p p.decls [] = L at *
  refine AWp.seqK fun K1 hK1 => ?_
  (refine AWp.seqR [0, 1, 2, 3, 4, 5, 6, 7, 8, 15, 21, 38, 52, 56, 68, 90] [] (by decide +kernel) fun K hK => ?_; simp -implicitDefEqProofs only [EV, forall_const, implies_true, Nat.reduceAdd, Nat.reduceEqDiff, Nat.reduceBEq, Nat.reduceLeDiff, Nat.reduceSub, Nat.reduceMul, Int.reduceEq, Int.reduceLT, Int.reduceLE, Int.reduceSub, Int.reduceAdd, Int.reduceToNat, reduceCtorEq, Int.reduceNeg, TF3, TF4, TF9, TF22, TF30, TF33, TF49]; refine hK _ _ ?_; clear hK K)
  refine AWp.block (AWp.forIdx L (X := Unit) (fun j _ => [(1, .box 1 0), (5, strsV L), (6, intV j)]) (fun _ _ => [(1, .cells ((prC p).map .d))]) (fun _ _ => True) () trivial (by simp [sle, vle, sget]) (by simp [ble, bget, prC]) ?_ ?_)
  · intro _ _
    refine AWp.seqK fun K2 hK2 => ?_
    (refine AWp.seqR [0, 1, 2, 3, 4, 5, 6, 7, 8, 15, 21, 38, 52, 56, 68, 90] [] (by decide +kernel) fun K hK => ?_; simp -implicitDefEqProofs only [EV, forall_const, implies_true, Nat.reduceAdd, Nat.reduceEqDiff, Nat.reduceBEq, Nat.reduceLeDiff, Nat.reduceSub, Nat.reduceMul, Int.reduceEq, Int.reduceLT, Int.reduceLE, Int.reduceSub, Int.reduceAdd, Int.reduceToNat, reduceCtorEq, Int.reduceNeg, TF3, TF4, TF9, TF22, TF30, TF33, TF49, Int.lt_irrefl]; refine hK _ _ ?_; clear hK K)
    refine AWp.stopK rfl ?_
    simp only [thenA, blockA, if_true]
    refine hK1 _ _ ?_
    clear hK1 K1 hK2 K2
    (refine AWp.seqR [0, 1, 2, 3, 4, 5, 6, 7, 8, 15, 21, 38, 52, 56, 68, 90] [] (by decide +kernel) fun K hK => ?_; simp -implicitDefEqProofs only [EV, forall_const, implies_true, Nat.reduceAdd, Nat.reduceEqDiff, Nat.reduceBEq, Nat.reduceLeDiff, Nat.reduceSub, Nat.reduceMul, Int.reduceEq, Int.reduceLT, Int.reduceLE, Int.reduceSub, Int.reduceAdd, Int.reduceToNat, reduceCtorEq, Int.reduceNeg, TF3, TF4, TF9, TF22, TF30, TF33, TF49]; refine hK _ _ ?_; clear hK K)
    exact AWp.ret ⟨_, by rw [Try.results5]; rfl, rfl⟩
  intro i _ x hx hxm _ _ hlt _
  refine AWp.seqK fun K2 hK2 => ?_
  (refine AWp.seqR [0, 1, 2, 3, 4, 5, 6, 7, 8, 15, 21, 38, 52, 56, 68, 90] [] (by decide +kernel) fun K hK => ?_; simp -implicitDefEqProofs only [EV, forall_const, implies_true, Nat.reduceAdd, Nat.reduceEqDiff, Nat.reduceBEq, Nat.reduceLeDiff, Nat.reduceSub, Nat.reduceMul, Int.reduceEq, Int.reduceLT, Int.reduceLE, Int.reduceSub, Int.reduceAdd, Int.reduceToNat, reduceCtorEq, Int.reduceNeg, TF3, TF4, TF9, TF22, TF30, TF33, TF49, hlt]; refine hK _ _ ?_; clear hK K)
  refine AWp.goOnK rfl hK2 ?_
  clear hK2 K2
  refine AWp.seqK fun K2 hK2 => ?_
  refine AWp.block ?_
  have hRl : (reachS p x).length ≤ p.decls.length := by
    have h1 := (reachN_win p x).len
    rw [← sortS_len, reach_same p hp] at h1
    exact h1
  have hkey := key x hxm
  (refine AWp.seqD [0, 1, 2, 3, 4, 5, 6, 7, 8, 15, 21, 38, 52, 56, 68, 90] [] 7 mixed (by decide +kernel) (by decide +kernel) fun K hK => ?_; simp -implicitDefEqProofs only [EV, forall_const, implies_true, Nat.reduceAdd, Nat.reduceEqDiff, Nat.reduceBEq, Nat.reduceLeDiff, Nat.reduceSub, Nat.reduceMul, Int.reduceEq, Int.reduceLT, Int.reduceLE, Int.reduceSub, Int.reduceAdd, Int.reduceToNat, reduceCtorEq, Int.reduceNeg, TF3, TF4, TF9, TF22, TF30, TF33, TF49]; refine ⟨by omega, _, strR_get hx, rfl, ?_⟩; (try simp -implicitDefEqProofs only [EV, forall_const, implies_true, Nat.reduceAdd, Nat.reduceEqDiff, Nat.reduceBEq, Nat.reduceLeDiff, Nat.reduceSub, Nat.reduceMul, Int.reduceEq, Int.reduceLT, Int.reduceLE, Int.reduceSub, Int.reduceAdd, Int.reduceToNat, reduceCtorEq, Int.reduceNeg, TF3, TF4, TF9, TF22, TF30, TF33, TF49]); refine ⟨_, .inl ⟨_, rfl, hc.reach x, rfl⟩, ?_⟩; (try simp -implicitDefEqProofs only [EV, forall_const, implies_true, Nat.reduceAdd, Nat.reduceEqDiff, Nat.reduceBEq, Nat.reduceLeDiff, Nat.reduceSub, Nat.reduceMul, Int.reduceEq, Int.reduceLT, Int.reduceLE, Int.reduceSub, Int.reduceAdd, Int.reduceToNat, reduceCtorEq, Int.reduceNeg, TF3, TF4, TF9, TF22, TF30, TF33, TF49]); refine hK _ _ ?_; clear hK K)
  generalize reachS p x = R at *
  (refine AWp.seqR [0, 1, 2, 3, 4, 5, 6, 7, 8, 15, 21, 38, 52, 56, 68, 90] [] (by decide +kernel) fun K hK => ?_; simp -implicitDefEqProofs only [EV, forall_const, implies_true, Nat.reduceAdd, Nat.reduceEqDiff, Nat.reduceBEq, Nat.reduceLeDiff, Nat.reduceSub, Nat.reduceMul, Int.reduceEq, Int.reduceLT, Int.reduceLE, Int.reduceSub, Int.reduceAdd, Int.reduceToNat, reduceCtorEq, Int.reduceNeg, TF3, TF4, TF9, TF22, TF30, TF33, TF49]; refine hK _ _ ?_; clear hK K)
  refine AWp.block (AWp.forIdx R (X := Unit) (fun k _ => [(1, .box 1 0), (5, strsV L), (6, intV i), (7, strsV R), (8, intV k)]) (fun _ _ => [(1, .cells ((prC p).map .d))]) (fun _ _ => True) () trivial (by simp [sle, vle, sget]) (by simp [ble, bget, prC]) ?_ ?_)
  · intro _ _
    refine AWp.seqK fun K3 hK3 => ?_
    (refine AWp.seqR [0, 1, 2, 3, 4, 5, 6, 7, 8, 15, 21, 38, 52, 56, 68, 90] [] (by decide +kernel) fun K hK => ?_; simp -implicitDefEqProofs only [EV, forall_const, implies_true, Nat.reduceAdd, Nat.reduceEqDiff, Nat.reduceBEq, Nat.reduceLeDiff, Nat.reduceSub, Nat.reduceMul, Int.reduceEq, Int.reduceLT, Int.reduceLE, Int.reduceSub, Int.reduceAdd, Int.reduceToNat, reduceCtorEq, Int.reduceNeg, TF3, TF4, TF9, TF22, TF30, TF33, TF49, Int.lt_irrefl]; refine hK _ _ ?_; clear hK K)
    refine AWp.stopK rfl ?_
    simp only [thenA, blockA, if_true]
    refine hK2 _ _ ?_
    clear hK2 K2 hK3 K3
    (refine AWp.lastR [0, 1, 2, 3, 4, 5, 6, 7, 8, 15, 21, 38, 52, 56, 68, 90] [] (by decide +kernel) fun K hK => ?_; simp -implicitDefEqProofs only [EV, forall_const, implies_true, Nat.reduceAdd, Nat.reduceEqDiff, Nat.reduceBEq, Nat.reduceLeDiff, Nat.reduceSub, Nat.reduceMul, Int.reduceEq, Int.reduceLT, Int.reduceLE, Int.reduceSub, Int.reduceAdd, Int.reduceToNat, reduceCtorEq, Int.reduceNeg, TF3, TF4, TF9, TF22, TF30, TF33, TF49]; refine ⟨by first | (unfold InR; omega) | (simp only [InR, sm, lim] at *; omega), ?_⟩; (try simp -implicitDefEqProofs only [EV, forall_const, implies_true, Nat.reduceAdd, Nat.reduceEqDiff, Nat.reduceBEq, Nat.reduceLeDiff, Nat.reduceSub, Nat.reduceMul, Int.reduceEq, Int.reduceLT, Int.reduceLE, Int.reduceSub, Int.reduceAdd, Int.reduceToNat, reduceCtorEq, Int.reduceNeg, TF3, TF4, TF9, TF22, TF30, TF33, TF49]); refine hK _ _ ?_; clear hK K; try simp only [thenA, blockA, if_true])
    exact ⟨(), trivial, (by simp [sle, vle, sget]), by simp [ble, bget, prC]⟩
  intro k _ y hy hym _ _ hltk _
  refine AWp.seqK fun K3 hK3 => ?_
  (refine AWp.seqR [0, 1, 2, 3, 4, 5, 6, 7, 8, 15, 21, 38, 52, 56, 68, 90] [] (by decide +kernel) fun K hK => ?_; simp -implicitDefEqProofs only [EV, forall_const, implies_true, Nat.reduceAdd, Nat.reduceEqDiff, Nat.reduceBEq, Nat.reduceLeDiff, Nat.reduceSub, Nat.reduceMul, Int.reduceEq, Int.reduceLT, Int.reduceLE, Int.reduceSub, Int.reduceAdd, Int.reduceToNat, reduceCtorEq, Int.reduceNeg, TF3, TF4, TF9, TF22, TF30, TF33, TF49, hltk]; refine hK _ _ ?_; clear hK K)
  refine AWp.goOnK rfl hK3 ?_
  clear hK3 K3
  refine AWp.seqK fun K3 hK3 => ?_
  refine AWp.block ?_
  have nxt : ∀ sl bx, sle sl [(1, .box 1 0), (5, strsV L), (6, intV i), (7, strsV R), (8, intV k)] → ble bx [(1, .cells ((prC p).map .d))] → K3 sl bx := by
    intro sl bx g1 g2
    refine hK3 _ _ (AWp.weaken g1 g2 ?_)
    clear hK3 K3
    (refine AWp.lastR [0, 1, 2, 3, 4, 5, 6, 7, 8, 15, 21, 38, 52, 56, 68, 90] [] (by decide +kernel) fun K hK => ?_; simp -implicitDefEqProofs only [EV, forall_const, implies_true, Nat.reduceAdd, Nat.reduceEqDiff, Nat.reduceBEq, Nat.reduceLeDiff, Nat.reduceSub, Nat.reduceMul, Int.reduceEq, Int.reduceLT, Int.reduceLE, Int.reduceSub, Int.reduceAdd, Int.reduceToNat, reduceCtorEq, Int.reduceNeg, TF3, TF4, TF9, TF22, TF30, TF33, TF49]; refine ⟨by first | (unfold InR; omega) | (simp only [InR, sm, lim] at *; omega), ?_⟩; (try simp -implicitDefEqProofs only [EV, forall_const, implies_true, Nat.reduceAdd, Nat.reduceEqDiff, Nat.reduceBEq, Nat.reduceLeDiff, Nat.reduceSub, Nat.reduceMul, Int.reduceEq, Int.reduceLT, Int.reduceLE, Int.reduceSub, Int.reduceAdd, Int.reduceToNat, reduceCtorEq, Int.reduceNeg, TF3, TF4, TF9, TF22, TF30, TF33, TF49]); refine hK _ _ ?_; clear hK K; try simp only [thenA, blockA, if_true])
    exact ⟨(), trivial, (by simp [sle, vle, sget]), by simp [ble, bget, prC]⟩
  clear hK3
  have hin := ok_In (reachS p y) x
  by_cases hb : x ∈ reachS p y
  · rw [decide_eq_true hb] at hin
    have hin2 := ok_In L y
    rw [decide_eq_true (hkey y hym hb)] at hin2
    (refine AWp.seqD [0, 1, 2, 3, 4, 5, 6, 7, 8, 15, 21, 38, 52, 56, 68, 90] [] 20 mixed (by decide +kernel) (by decide +kernel) fun K hK => ?_; simp -implicitDefEqProofs only [EV, forall_const, implies_true, Nat.reduceAdd, Nat.reduceEqDiff, Nat.reduceBEq, Nat.reduceLeDiff, Nat.reduceSub, Nat.reduceMul, Int.reduceEq, Int.reduceLT, Int.reduceLE, Int.reduceSub, Int.reduceAdd, Int.reduceToNat, reduceCtorEq, Int.reduceNeg, TF3, TF4, TF9, TF22, TF30, TF33, TF49]; refine ⟨by omega, _, strR_get hy, rfl, ?_⟩; (try simp -implicitDefEqProofs only [EV, forall_const, implies_true, Nat.reduceAdd, Nat.reduceEqDiff, Nat.reduceBEq, Nat.reduceLeDiff, Nat.reduceSub, Nat.reduceMul, Int.reduceEq, Int.reduceLT, Int.reduceLE, Int.reduceSub, Int.reduceAdd, Int.reduceToNat, reduceCtorEq, Int.reduceNeg, TF3, TF4, TF9, TF22, TF30, TF33, TF49]); refine ⟨_, .inl ⟨_, rfl, hc.reach y, rfl⟩, ?_⟩; (try simp -implicitDefEqProofs only [EV, forall_const, implies_true, Nat.reduceAdd, Nat.reduceEqDiff, Nat.reduceBEq, Nat.reduceLeDiff, Nat.reduceSub, Nat.reduceMul, Int.reduceEq, Int.reduceLT, Int.reduceLE, Int.reduceSub, Int.reduceAdd, Int.reduceToNat, reduceCtorEq, Int.reduceNeg, TF3, TF4, TF9, TF22, TF30, TF33, TF49]); refine ⟨by omega, _, strR_get hx, rfl, ?_⟩; (try simp -implicitDefEqProofs only [EV, forall_const, implies_true, Nat.reduceAdd, Nat.reduceEqDiff, Nat.reduceBEq, Nat.reduceLeDiff, Nat.reduceSub, Nat.reduceMul, Int.reduceEq, Int.reduceLT, Int.reduceLE, Int.reduceSub, Int.reduceAdd, Int.reduceToNat, reduceCtorEq, Int.reduceNeg, TF3, TF4, TF9, TF22, TF30, TF33, TF49]); refine ⟨_, .inl ⟨_, rfl, hin, rfl⟩, ?_⟩; (try simp -implicitDefEqProofs only [EV, forall_const, implies_true, Nat.reduceAdd, Nat.reduceEqDiff, Nat.reduceBEq, Nat.reduceLeDiff, Nat.reduceSub, Nat.reduceMul, Int.reduceEq, Int.reduceLT, Int.reduceLE, Int.reduceSub, Int.reduceAdd, Int.reduceToNat, reduceCtorEq, Int.reduceNeg, TF3, TF4, TF9, TF22, TF30, TF33, TF49]); refine ⟨by omega, _, strR_get hy, rfl, ?_⟩; (try simp -implicitDefEqProofs only [EV, forall_const, implies_true, Nat.reduceAdd, Nat.reduceEqDiff, Nat.reduceBEq, Nat.reduceLeDiff, Nat.reduceSub, Nat.reduceMul, Int.reduceEq, Int.reduceLT, Int.reduceLE, Int.reduceSub, Int.reduceAdd, Int.reduceToNat, reduceCtorEq, Int.reduceNeg, TF3, TF4, TF9, TF22, TF30, TF33, TF49]); refine ⟨_, .inl ⟨_, rfl, hin2, rfl⟩, ?_⟩; (try simp -implicitDefEqProofs only [EV, forall_const, implies_true, Nat.reduceAdd, Nat.reduceEqDiff, Nat.reduceBEq, Nat.reduceLeDiff, Nat.reduceSub, Nat.reduceMul, Int.reduceEq, Int.reduceLT, Int.reduceLE, Int.reduceSub, Int.reduceAdd, Int.reduceToNat, reduceCtorEq, Int.reduceNeg, TF3, TF4, TF9, TF22, TF30, TF33, TF49]); refine hK _ _ ?_; clear hK K)
    refine AWp.condF rfl (AWp.skip ?_)
    simp only [thenA, blockA, if_true]
    exact nxt _ _ (by simp [sle, vle, sget]) (by simp [ble, bget, prC])
  · rw [decide_eq_false hb] at hin
    (refine AWp.seqD [0, 1, 2, 3, 4, 5, 6, 7, 8, 15, 21, 38, 52, 56, 68, 90] [] 20 mixed (by decide +kernel) (by decide +kernel) fun K hK => ?_; simp -implicitDefEqProofs only [EV, forall_const, implies_true, Nat.reduceAdd, Nat.reduceEqDiff, Nat.reduceBEq, Nat.reduceLeDiff, Nat.reduceSub, Nat.reduceMul, Int.reduceEq, Int.reduceLT, Int.reduceLE, Int.reduceSub, Int.reduceAdd, Int.reduceToNat, reduceCtorEq, Int.reduceNeg, TF3, TF4, TF9, TF22, TF30, TF33, TF49]; refine ⟨by omega, _, strR_get hy, rfl, ?_⟩; (try simp -implicitDefEqProofs only [EV, forall_const, implies_true, Nat.reduceAdd, Nat.reduceEqDiff, Nat.reduceBEq, Nat.reduceLeDiff, Nat.reduceSub, Nat.reduceMul, Int.reduceEq, Int.reduceLT, Int.reduceLE, Int.reduceSub, Int.reduceAdd, Int.reduceToNat, reduceCtorEq, Int.reduceNeg, TF3, TF4, TF9, TF22, TF30, TF33, TF49]); refine ⟨_, .inl ⟨_, rfl, hc.reach y, rfl⟩, ?_⟩; (try simp -implicitDefEqProofs only [EV, forall_const, implies_true, Nat.reduceAdd, Nat.reduceEqDiff, Nat.reduceBEq, Nat.reduceLeDiff, Nat.reduceSub, Nat.reduceMul, Int.reduceEq, Int.reduceLT, Int.reduceLE, Int.reduceSub, Int.reduceAdd, Int.reduceToNat, reduceCtorEq, Int.reduceNeg, TF3, TF4, TF9, TF22, TF30, TF33, TF49]); refine ⟨by omega, _, strR_get hx, rfl, ?_⟩; (try simp -implicitDefEqProofs only [EV, forall_const, implies_true, Nat.reduceAdd, Nat.reduceEqDiff, Nat.reduceBEq, Nat.reduceLeDiff, Nat.reduceSub, Nat.reduceMul, Int.reduceEq, Int.reduceLT, Int.reduceLE, Int.reduceSub, Int.reduceAdd, Int.reduceToNat, reduceCtorEq, Int.reduceNeg, TF3, TF4, TF9, TF22, TF30, TF33, TF49]); refine ⟨_, .inl ⟨_, rfl, hin, rfl⟩, ?_⟩; (try simp -implicitDefEqProofs only [EV, forall_const, implies_true, Nat.reduceAdd, Nat.reduceEqDiff, Nat.reduceBEq, Nat.reduceLeDiff, Nat.reduceSub, Nat.reduceMul, Int.reduceEq, Int.reduceLT, Int.reduceLE, Int.reduceSub, Int.reduceAdd, Int.reduceToNat, reduceCtorEq, Int.reduceNeg, TF3, TF4, TF9, TF22, TF30, TF33, TF49]); refine hK _ _ ?_; clear hK K)
    refine AWp.condF rfl (AWp.skip ?_)
    simp only [thenA, blockA, if_true]
    exact nxt _ _ (by simp [sle, vle, sget]) (by simp [ble, bget, prC])

end Go.Abs
