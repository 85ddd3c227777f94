/- The laws of layer 14 as functions: ContainGrows returns true -/
import Derived.Test.YtibfepggadjjgaaH14
namespace Go.Abs
set_option linter.unusedSimpArgs false
set_option linter.unusedVariables false
open Go Go.Proofs
set_option maxRecDepth 100000
set_option maxHeartbeats 1000000

theorem law_G (p : Prog) : CallOK Try.prog 6 [prV p] (boolV true) := by
  (refine CallOK.of_body Try.func6 rfl (by decide) (by rw [Try.ntmps6]; simp) ?_; rw [Try.ntmps6])
  (refine AWp.seqR [0, 1, 2, 3, 4, 5, 6, 19, 38, 47] [] (by decide +kernel) fun K hK => ?_; simp -implicitDefEqProofs only [EV, forall_const, implies_true, Nat.reduceAdd, Nat.reduceEqDiff, Nat.reduceBEq, Nat.reduceLeDiff, Nat.reduceSub, Nat.reduceMul, Int.reduceEq, Int.reduceLT, Int.reduceLE, Int.reduceSub, Int.reduceAdd, Int.reduceToNat, reduceCtorEq, Int.reduceNeg, TF3, TF4, TF9, TF22, TF28, TF30, TF33, TF49]; refine hK _ _ ?_; clear hK K)
  refine AWp.seqK fun K1 hK1 => ?_
  have hfew := ok_Few06 p
  by_cases hf : p.count ≤ 600
  rotate_left
  · rw [decide_eq_false hf] at hfew
    (refine AWp.seqR [0, 1, 2, 3, 4, 5, 6, 19, 38, 47] [] (by decide +kernel) fun K hK => ?_; simp -implicitDefEqProofs only [EV, forall_const, implies_true, Nat.reduceAdd, Nat.reduceEqDiff, Nat.reduceBEq, Nat.reduceLeDiff, Nat.reduceSub, Nat.reduceMul, Int.reduceEq, Int.reduceLT, Int.reduceLE, Int.reduceSub, Int.reduceAdd, Int.reduceToNat, reduceCtorEq, Int.reduceNeg, TF3, TF4, TF9, TF22, TF28, TF30, TF33, TF49]; refine ⟨_, .inl ⟨_, rfl, ok_awake, rfl⟩, ?_⟩; (try simp -implicitDefEqProofs only [EV, forall_const, implies_true, Nat.reduceAdd, Nat.reduceEqDiff, Nat.reduceBEq, Nat.reduceLeDiff, Nat.reduceSub, Nat.reduceMul, Int.reduceEq, Int.reduceLT, Int.reduceLE, Int.reduceSub, Int.reduceAdd, Int.reduceToNat, reduceCtorEq, Int.reduceNeg, TF3, TF4, TF9, TF22, TF28, TF30, TF33, TF49]); refine ⟨_, .inl ⟨_, rfl, hfew, rfl⟩, ?_⟩; (try simp -implicitDefEqProofs only [EV, forall_const, implies_true, Nat.reduceAdd, Nat.reduceEqDiff, Nat.reduceBEq, Nat.reduceLeDiff, Nat.reduceSub, Nat.reduceMul, Int.reduceEq, Int.reduceLT, Int.reduceLE, Int.reduceSub, Int.reduceAdd, Int.reduceToNat, reduceCtorEq, Int.reduceNeg, TF3, TF4, TF9, TF22, TF28, TF30, TF33, TF49]); refine hK _ _ ?_; clear hK K)
    refine AWp.takeIfK rfl ?_
    (refine AWp.seqR [0, 1, 2, 3, 4, 5, 6, 19, 38, 47] [] (by decide +kernel) fun K hK => ?_; simp -implicitDefEqProofs only [EV, forall_const, implies_true, Nat.reduceAdd, Nat.reduceEqDiff, Nat.reduceBEq, Nat.reduceLeDiff, Nat.reduceSub, Nat.reduceMul, Int.reduceEq, Int.reduceLT, Int.reduceLE, Int.reduceSub, Int.reduceAdd, Int.reduceToNat, reduceCtorEq, Int.reduceNeg, TF3, TF4, TF9, TF22, TF28, TF30, TF33, TF49]; refine ⟨_, .inl ⟨_, rfl, ok_awake, rfl⟩, ?_⟩; (try simp -implicitDefEqProofs only [EV, forall_const, implies_true, Nat.reduceAdd, Nat.reduceEqDiff, Nat.reduceBEq, Nat.reduceLeDiff, Nat.reduceSub, Nat.reduceMul, Int.reduceEq, Int.reduceLT, Int.reduceLE, Int.reduceSub, Int.reduceAdd, Int.reduceToNat, reduceCtorEq, Int.reduceNeg, TF3, TF4, TF9, TF22, TF28, TF30, TF33, TF49]); refine hK _ _ ?_; clear hK K)
    exact AWp.ret ⟨_, by rw [Try.results6]; rfl, rfl⟩
  obtain ⟨hsm, hlen⟩ := p.count_sm hf
  have hp : p.decls.length ≤ 100000 := by omega
  have hc := Cs.of hsm hp
  rw [decide_eq_true hf] at hfew
  rcases List.eq_nil_or_concat p.decls with hnil | ⟨ds, d, hds⟩
  · have hz : (p.decls.length : Int) = 0 := by rw [hnil]; rfl
    (refine AWp.seqR [0, 1, 2, 3, 4, 5, 6, 19, 38, 47] [] (by decide +kernel) fun K hK => ?_; simp -implicitDefEqProofs only [EV, forall_const, implies_true, Nat.reduceAdd, Nat.reduceEqDiff, Nat.reduceBEq, Nat.reduceLeDiff, Nat.reduceSub, Nat.reduceMul, Int.reduceEq, Int.reduceLT, Int.reduceLE, Int.reduceSub, Int.reduceAdd, Int.reduceToNat, reduceCtorEq, Int.reduceNeg, TF3, TF4, TF9, TF22, TF28, TF30, TF33, TF49, hz]; refine ⟨_, .inl ⟨_, rfl, ok_awake, rfl⟩, ?_⟩; (try simp -implicitDefEqProofs only [EV, forall_const, implies_true, Nat.reduceAdd, Nat.reduceEqDiff, Nat.reduceBEq, Nat.reduceLeDiff, Nat.reduceSub, Nat.reduceMul, Int.reduceEq, Int.reduceLT, Int.reduceLE, Int.reduceSub, Int.reduceAdd, Int.reduceToNat, reduceCtorEq, Int.reduceNeg, TF3, TF4, TF9, TF22, TF28, TF30, TF33, TF49, hz]); refine ⟨_, .inl ⟨_, rfl, hfew, rfl⟩, ?_⟩; (try simp -implicitDefEqProofs only [EV, forall_const, implies_true, Nat.reduceAdd, Nat.reduceEqDiff, Nat.reduceBEq, Nat.reduceLeDiff, Nat.reduceSub, Nat.reduceMul, Int.reduceEq, Int.reduceLT, Int.reduceLE, Int.reduceSub, Int.reduceAdd, Int.reduceToNat, reduceCtorEq, Int.reduceNeg, TF3, TF4, TF9, TF22, TF28, TF30, TF33, TF49, hz]); refine hK _ _ ?_; clear hK K)
    refine AWp.takeIfK rfl ?_
    (refine AWp.seqR [0, 1, 2, 3, 4, 5, 6, 19, 38, 47] [] (by decide +kernel) fun K hK => ?_; simp -implicitDefEqProofs only [EV, forall_const, implies_true, Nat.reduceAdd, Nat.reduceEqDiff, Nat.reduceBEq, Nat.reduceLeDiff, Nat.reduceSub, Nat.reduceMul, Int.reduceEq, Int.reduceLT, Int.reduceLE, Int.reduceSub, Int.reduceAdd, Int.reduceToNat, reduceCtorEq, Int.reduceNeg, TF3, TF4, TF9, TF22, TF28, TF30, TF33, TF49]; refine ⟨_, .inl ⟨_, rfl, ok_awake, rfl⟩, ?_⟩; (try simp -implicitDefEqProofs only [EV, forall_const, implies_true, Nat.reduceAdd, Nat.reduceEqDiff, Nat.reduceBEq, Nat.reduceLeDiff, Nat.reduceSub, Nat.reduceMul, Int.reduceEq, Int.reduceLT, Int.reduceLE, Int.reduceSub, Int.reduceAdd, Int.reduceToNat, reduceCtorEq, Int.reduceNeg, TF3, TF4, TF9, TF22, TF28, TF30, TF33, TF49]); refine hK _ _ ?_; clear hK K)
    exact AWp.ret ⟨_, by rw [Try.results6]; rfl, rfl⟩
  rw [List.concat_eq_append] at hds
  have hnz : ¬ (p.decls.length : Int) = 0 := by rw [hds]; simp; omega
  (refine AWp.seqR [0, 1, 2, 3, 4, 5, 6, 19, 38, 47] [] (by decide +kernel) fun K hK => ?_; simp -implicitDefEqProofs only [EV, forall_const, implies_true, Nat.reduceAdd, Nat.reduceEqDiff, Nat.reduceBEq, Nat.reduceLeDiff, Nat.reduceSub, Nat.reduceMul, Int.reduceEq, Int.reduceLT, Int.reduceLE, Int.reduceSub, Int.reduceAdd, Int.reduceToNat, reduceCtorEq, Int.reduceNeg, TF3, TF4, TF9, TF22, TF28, TF30, TF33, TF49, hnz]; refine ⟨_, .inl ⟨_, rfl, ok_awake, rfl⟩, ?_⟩; (try simp -implicitDefEqProofs only [EV, forall_const, implies_true, Nat.reduceAdd, Nat.reduceEqDiff, Nat.reduceBEq, Nat.reduceLeDiff, Nat.reduceSub, Nat.reduceMul, Int.reduceEq, Int.reduceLT, Int.reduceLE, Int.reduceSub, Int.reduceAdd, Int.reduceToNat, reduceCtorEq, Int.reduceNeg, TF3, TF4, TF9, TF22, TF28, TF30, TF33, TF49, hnz]); refine ⟨_, .inl ⟨_, rfl, hfew, rfl⟩, ?_⟩; (try simp -implicitDefEqProofs only [EV, forall_const, implies_true, Nat.reduceAdd, Nat.reduceEqDiff, Nat.reduceBEq, Nat.reduceLeDiff, Nat.reduceSub, Nat.reduceMul, Int.reduceEq, Int.reduceLT, Int.reduceLE, Int.reduceSub, Int.reduceAdd, Int.reduceToNat, reduceCtorEq, Int.reduceNeg, TF3, TF4, TF9, TF22, TF28, TF30, TF33, TF49, hnz]); refine hK _ _ ?_; clear hK K)
  refine AWp.skipIfK rfl hK1 ?_
  clear hK1 K1
  obtain ⟨dsp, m⟩ := p
  simp only at hds
  subst hds
  have hqs : (⟨ds, m⟩ : Prog).Sm := ⟨⟨by have := hsm.decls.1; simp only [List.length_append] at this; simp only; omega, fun x hx => hsm.decls.2 x (by simp only [List.mem_append] at *; exact .inl hx)⟩, hsm.main⟩
  have hcq := Cs.of hqs (by simp only [List.length_append] at hp; simp only; omega)
  have hl1 : ((ds ++ [d]).length : Int) - 1 = (ds.length : Int) := by simp
  have htk : (deR (ds ++ [d])).take ds.length = deR ds := by simp [deR]
  have hll : ds.length ≤ (ds ++ [d]).length := by simp
  (refine AWp.seqDL [0, 1, 2, 3, 4, 5, 6, 19, 38, 47] [] 11 10 3 30 _ mixed (by decide +kernel) (by decide +kernel) ⟨by decide, ⟨_, rfl, rfl, rfl, rfl⟩, by decide, (by first | exact TF30.2.2.1 | simp only [TF30])⟩ fun K hK => ?_; simp -implicitDefEqProofs only [EV, forall_const, implies_true, Nat.reduceAdd, Nat.reduceEqDiff, Nat.reduceBEq, Nat.reduceLeDiff, Nat.reduceSub, Nat.reduceMul, Int.reduceEq, Int.reduceLT, Int.reduceLE, Int.reduceSub, Int.reduceAdd, Int.reduceToNat, reduceCtorEq, Int.reduceNeg, TF3, TF4, TF9, TF22, TF28, TF30, TF33, TF49, hl1, htk]; refine ⟨by first | (unfold InR; omega) | (simp only [InR, sm, lim] at *; omega), ?_⟩; (try simp -implicitDefEqProofs only [EV, forall_const, implies_true, Nat.reduceAdd, Nat.reduceEqDiff, Nat.reduceBEq, Nat.reduceLeDiff, Nat.reduceSub, Nat.reduceMul, Int.reduceEq, Int.reduceLT, Int.reduceLE, Int.reduceSub, Int.reduceAdd, Int.reduceToNat, reduceCtorEq, Int.reduceNeg, TF3, TF4, TF9, TF22, TF28, TF30, TF33, TF49, hl1, htk]); refine ⟨deR_row _, Int.natCast_nonneg _, by simp; omega, ?_⟩; (try simp -implicitDefEqProofs only [EV, forall_const, implies_true, Nat.reduceAdd, Nat.reduceEqDiff, Nat.reduceBEq, Nat.reduceLeDiff, Nat.reduceSub, Nat.reduceMul, Int.reduceEq, Int.reduceLT, Int.reduceLE, Int.reduceSub, Int.reduceAdd, Int.reduceToNat, reduceCtorEq, Int.reduceNeg, TF3, TF4, TF9, TF22, TF28, TF30, TF33, TF49, hl1, htk]); refine hK _ _ ?_; clear hK K)
  (refine AWp.seqR [0, 1, 2, 3, 4, 5, 6, 19, 38, 47] [] (by decide +kernel) fun K hK => ?_; simp -implicitDefEqProofs only [EV, forall_const, implies_true, Nat.reduceAdd, Nat.reduceEqDiff, Nat.reduceBEq, Nat.reduceLeDiff, Nat.reduceSub, Nat.reduceMul, Int.reduceEq, Int.reduceLT, Int.reduceLE, Int.reduceSub, Int.reduceAdd, Int.reduceToNat, reduceCtorEq, Int.reduceNeg, TF3, TF4, TF9, TF22, TF28, TF30, TF33, TF49]; refine ⟨_, .inl ⟨_, rfl, hc.all, rfl⟩, ?_⟩; (try simp -implicitDefEqProofs only [EV, forall_const, implies_true, Nat.reduceAdd, Nat.reduceEqDiff, Nat.reduceBEq, Nat.reduceLeDiff, Nat.reduceSub, Nat.reduceMul, Int.reduceEq, Int.reduceLT, Int.reduceLE, Int.reduceSub, Int.reduceAdd, Int.reduceToNat, reduceCtorEq, Int.reduceNeg, TF3, TF4, TF9, TF22, TF28, TF30, TF33, TF49]); refine hK _ _ ?_; clear hK K)
  (refine AWp.seqR [0, 1, 2, 3, 4, 5, 6, 19, 38, 47] [] (by decide +kernel) fun K hK => ?_; simp -implicitDefEqProofs only [EV, forall_const, implies_true, Nat.reduceAdd, Nat.reduceEqDiff, Nat.reduceBEq, Nat.reduceLeDiff, Nat.reduceSub, Nat.reduceMul, Int.reduceEq, Int.reduceLT, Int.reduceLE, Int.reduceSub, Int.reduceAdd, Int.reduceToNat, reduceCtorEq, Int.reduceNeg, TF3, TF4, TF9, TF22, TF28, TF30, TF33, TF49]; refine ⟨_, .inl ⟨_, rfl, hcq.all, rfl⟩, ?_⟩; (try simp -implicitDefEqProofs only [EV, forall_const, implies_true, Nat.reduceAdd, Nat.reduceEqDiff, Nat.reduceBEq, Nat.reduceLeDiff, Nat.reduceSub, Nat.reduceMul, Int.reduceEq, Int.reduceLT, Int.reduceLE, Int.reduceSub, Int.reduceAdd, Int.reduceToNat, reduceCtorEq, Int.reduceNeg, TF3, TF4, TF9, TF22, TF28, TF30, TF33, TF49]); refine hK _ _ ?_; clear hK K)
  have key : ∀ x, x ∈ wantF ⟨ds, m⟩ (⟨ds, m⟩ : Prog).decls [] → x ∈ wantF ⟨ds ++ [d], m⟩ (⟨ds ++ [d], m⟩ : Prog).decls [] := by
    intro x hx
    rw [mem_wantAll (by simp only [List.length_append] at hp; simp only; omega)] at hx
    exact (mem_wantAll hp).2 hx.less
  generalize wantF ⟨ds, m⟩ (⟨ds, m⟩ : Prog).decls [] = M at *
  generalize wantF ⟨ds ++ [d], m⟩ (⟨ds ++ [d], m⟩ : Prog).decls [] = L at *
  refine AWp.seqK fun K1 hK1 => ?_
  (refine AWp.seqR [0, 1, 2, 3, 4, 5, 6, 19, 38, 47] [] (by decide +kernel) fun K hK => ?_; simp -implicitDefEqProofs only [EV, forall_const, implies_true, Nat.reduceAdd, Nat.reduceEqDiff, Nat.reduceBEq, Nat.reduceLeDiff, Nat.reduceSub, Nat.reduceMul, Int.reduceEq, Int.reduceLT, Int.reduceLE, Int.reduceSub, Int.reduceAdd, Int.reduceToNat, reduceCtorEq, Int.reduceNeg, TF3, TF4, TF9, TF22, TF28, TF30, TF33, TF49]; refine hK _ _ ?_; clear hK K)
  refine AWp.slotBd 5 fun hbd => ?_
  refine AWp.block (AWp.forIdx M (X := Unit) (fun j _ => [(4, strsV L), (5, strsV M), (6, intV j)]) (fun _ _ => []) (fun _ _ => True) () trivial (by simp [sle, vle, sget]) (by simp [ble, bget, exC, tyC, foC, paC, siC, deC, prC]) ?_ ?_)
  · intro _ _
    refine AWp.seqK fun K2 hK2 => ?_
    (refine AWp.seqR [0, 1, 2, 3, 4, 5, 6, 19, 38, 47] [] (by decide +kernel) fun K hK => ?_; simp -implicitDefEqProofs only [EV, forall_const, implies_true, Nat.reduceAdd, Nat.reduceEqDiff, Nat.reduceBEq, Nat.reduceLeDiff, Nat.reduceSub, Nat.reduceMul, Int.reduceEq, Int.reduceLT, Int.reduceLE, Int.reduceSub, Int.reduceAdd, Int.reduceToNat, reduceCtorEq, Int.reduceNeg, TF3, TF4, TF9, TF22, TF28, TF30, TF33, TF49, Int.lt_irrefl]; refine hK _ _ ?_; clear hK K)
    refine AWp.stopK rfl ?_
    simp only [thenA, blockA, if_true]
    refine hK1 _ _ ?_
    (refine AWp.seqR [0, 1, 2, 3, 4, 5, 6, 19, 38, 47] [] (by decide +kernel) fun K hK => ?_; simp -implicitDefEqProofs only [EV, forall_const, implies_true, Nat.reduceAdd, Nat.reduceEqDiff, Nat.reduceBEq, Nat.reduceLeDiff, Nat.reduceSub, Nat.reduceMul, Int.reduceEq, Int.reduceLT, Int.reduceLE, Int.reduceSub, Int.reduceAdd, Int.reduceToNat, reduceCtorEq, Int.reduceNeg, TF3, TF4, TF9, TF22, TF28, TF30, TF33, TF49]; refine hK _ _ ?_; clear hK K)
    exact AWp.ret ⟨_, by rw [Try.results6]; rfl, rfl⟩
  intro i _ x hx hxm _ _ hlt _
  have hML : M.length ≤ lim := (strs_ok (by simpa [sget, SV.bd] using hbd)).1
  refine AWp.seqK fun K2 hK2 => ?_
  (refine AWp.seqR [0, 1, 2, 3, 4, 5, 6, 19, 38, 47] [] (by decide +kernel) fun K hK => ?_; simp -implicitDefEqProofs only [EV, forall_const, implies_true, Nat.reduceAdd, Nat.reduceEqDiff, Nat.reduceBEq, Nat.reduceLeDiff, Nat.reduceSub, Nat.reduceMul, Int.reduceEq, Int.reduceLT, Int.reduceLE, Int.reduceSub, Int.reduceAdd, Int.reduceToNat, reduceCtorEq, Int.reduceNeg, TF3, TF4, TF9, TF22, TF28, TF30, TF33, TF49, hlt]; refine hK _ _ ?_; clear hK K)
  refine AWp.goOnK rfl hK2 ?_
  clear hK2 K2
  refine AWp.seqK fun K2 hK2 => ?_
  refine AWp.block ?_
  have hin := ok_In L x
  rw [decide_eq_true (key x hxm)] at hin
  (refine AWp.seqR [0, 1, 2, 3, 4, 5, 6, 19, 38, 47] [] (by decide +kernel) fun K hK => ?_; simp -implicitDefEqProofs only [EV, forall_const, implies_true, Nat.reduceAdd, Nat.reduceEqDiff, Nat.reduceBEq, Nat.reduceLeDiff, Nat.reduceSub, Nat.reduceMul, Int.reduceEq, Int.reduceLT, Int.reduceLE, Int.reduceSub, Int.reduceAdd, Int.reduceToNat, reduceCtorEq, Int.reduceNeg, TF3, TF4, TF9, TF22, TF28, TF30, TF33, TF49]; refine ⟨by omega, _, strR_get hx, rfl, ?_⟩; (try simp -implicitDefEqProofs only [EV, forall_const, implies_true, Nat.reduceAdd, Nat.reduceEqDiff, Nat.reduceBEq, Nat.reduceLeDiff, Nat.reduceSub, Nat.reduceMul, Int.reduceEq, Int.reduceLT, Int.reduceLE, Int.reduceSub, Int.reduceAdd, Int.reduceToNat, reduceCtorEq, Int.reduceNeg, TF3, TF4, TF9, TF22, TF28, TF30, TF33, TF49]); refine ⟨_, .inl ⟨_, rfl, hin, rfl⟩, ?_⟩; (try simp -implicitDefEqProofs only [EV, forall_const, implies_true, Nat.reduceAdd, Nat.reduceEqDiff, Nat.reduceBEq, Nat.reduceLeDiff, Nat.reduceSub, Nat.reduceMul, Int.reduceEq, Int.reduceLT, Int.reduceLE, Int.reduceSub, Int.reduceAdd, Int.reduceToNat, reduceCtorEq, Int.reduceNeg, TF3, TF4, TF9, TF22, TF28, TF30, TF33, TF49]); refine hK _ _ ?_; clear hK K)
  refine AWp.condF rfl (AWp.skip ?_)
  simp only [thenA, blockA, if_true]
  refine hK2 _ _ ?_
  clear hK2 K2
  (refine AWp.lastR [0, 1, 2, 3, 4, 5, 6, 19, 38, 47] [] (by decide +kernel) fun K hK => ?_; simp -implicitDefEqProofs only [EV, forall_const, implies_true, Nat.reduceAdd, Nat.reduceEqDiff, Nat.reduceBEq, Nat.reduceLeDiff, Nat.reduceSub, Nat.reduceMul, Int.reduceEq, Int.reduceLT, Int.reduceLE, Int.reduceSub, Int.reduceAdd, Int.reduceToNat, reduceCtorEq, Int.reduceNeg, TF3, TF4, TF9, TF22, TF28, TF30, TF33, TF49]; refine ⟨by first | (unfold InR; omega) | (simp only [InR, sm, lim] at *; omega), ?_⟩; (try simp -implicitDefEqProofs only [EV, forall_const, implies_true, Nat.reduceAdd, Nat.reduceEqDiff, Nat.reduceBEq, Nat.reduceLeDiff, Nat.reduceSub, Nat.reduceMul, Int.reduceEq, Int.reduceLT, Int.reduceLE, Int.reduceSub, Int.reduceAdd, Int.reduceToNat, reduceCtorEq, Int.reduceNeg, TF3, TF4, TF9, TF22, TF28, TF30, TF33, TF49]); refine hK _ _ ?_; clear hK K; try simp only [thenA, blockA, if_true])
  exact ⟨(), trivial, (by simp [sle, vle, sget]), (by simp [ble, bget, exC, tyC, foC, paC, siC, deC, prC])⟩
end Go.Abs
