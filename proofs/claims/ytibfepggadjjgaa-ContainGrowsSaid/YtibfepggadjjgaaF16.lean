/- contain.fields, gather -/
import Derived.Test.YtibfepggadjjgaaF15
import Derived.Test.YtibfepggadjjgaaAb4
namespace Go.Abs
set_option linter.unusedSimpArgs false
set_option linter.unusedVariables false
open Go Go.Proofs
set_option maxRecDepth 100000
set_option maxHeartbeats 1000000

theorem key9 (s : Str) (h : s.length ≤ lim) : KeyAt Try.prog 9 (.str s) := by
  have hu : Try.prog.underlying 9 = some .string := TF9.2.2.2.2.1
  refine ⟨rfl, by simp [D.kv, D.lit, Lit.value, Value.formed, hu], ?_⟩
  simp [D.kv, D.lit, D.lits, Lit.value, Value.cells, Program.keyLits, hu, ByteArray.size]
  unfold lim at h; unfold maxLen; omega
mutual
def Ty.gather (p : Prog) : Ty → List (D × D) → List (D × D)
  | .mk n a _, m => if kindOf p n = 1 then Ty.gatherL p a (kput (.str n) (.bool true) m) else m
def Ty.gatherL (p : Prog) : List Ty → List (D × D) → List (D × D)
  | [], m => m
  | t :: ts, m => Ty.gatherL p ts (t.gather p m)
end
theorem Ty.gather_eq (p : Prog) (t : Ty) (m : List (D × D)) : t.gather p m = if kindOf p t.name = 1 then Ty.gatherL p t.args (kput (.str t.name) (.bool true) m) else m := by cases t; rfl
theorem Ty.Sm.nameL {t : Ty} (h : t.Sm) : t.name.length ≤ lim := Nat.le_trans h.name (by decide)
mutual
theorem gather_keys {p : Prog} : ∀ (t : Ty), t.Sm → ∀ {m : List (D × D)}, (∀ kv, kv ∈ m → KeyAt Try.prog 9 kv.1) → ∀ kv, kv ∈ t.gather p m → KeyAt Try.prog 9 kv.1
  | .mk n a q, ht, m, hm => by
    simp only [Ty.gather]
    split
    · exact gatherL_keys a ht.arg (kput_keys hm (key9 n ht.nameL))
    · exact hm
theorem gatherL_keys {p : Prog} : ∀ (l : List Ty), (∀ t, t ∈ l → t.Sm) → ∀ {m : List (D × D)}, (∀ kv, kv ∈ m → KeyAt Try.prog 9 kv.1) → ∀ kv, kv ∈ Ty.gatherL p l m → KeyAt Try.prog 9 kv.1
  | [], _, _, hm => hm
  | t :: ts, h, _, hm => gatherL_keys ts (fun u hu => h u (by simp [hu])) (gather_keys t (h t (by simp)) hm)
end
theorem ok_gather (p : Prog) (h : p.Sm) : ∀ (t : Ty), t.Sm → ∀ m, (∀ kv, kv ∈ m → KeyAt Try.prog 9 kv.1) →
    CallB Try.prog 28 [.dptr (tabC p) 0, tyV t, .mp 1000000] [(1000000, .map m)] (.tuple []) [(1000000, .map (t.gather p m))] := by
  intro t
  induction t using Ty.induct with
  | h t ih =>
  intro ht m hm
  refine CallB.bd (Enters.of Try.func28 rfl (by decide)) fun hbd => ?_
  have hok := ty_ok hbd.2.1
  have hl := ht.len
  have heqn := Ty.gather_eq p t m
  (refine CallB.of_body Try.func28 rfl (by decide) (by rw [Try.ntmps28]; simp) ?_; rw [Try.ntmps28])
  (refine AWp.seqR [0, 1, 2, 4, 7, 12, 17, 18, 19, 20, 1000000] [] (by decide +kernel) fun K hK => ?_; simp -implicitDefEqProofs only [EV, forall_const, implies_true, Nat.reduceAdd, Nat.reduceEqDiff, Nat.reduceBEq, Nat.reduceLeDiff, Nat.reduceSub, Nat.reduceMul, Int.reduceEq, Int.reduceLT, Int.reduceLE, Int.reduceSub, Int.reduceAdd, Int.reduceToNat, reduceCtorEq, Int.reduceNeg, TF3, TF4, TF9, TF23, TF25, TF58]; refine hK _ _ ?_; clear hK K)
  refine AWp.seqK fun K1 hK1 => ?_
  (refine AWp.seqR [0, 1, 2, 4, 7, 12, 17, 18, 19, 20, 1000000] [] (by decide +kernel) fun K hK => ?_; simp -implicitDefEqProofs only [EV, forall_const, implies_true, Nat.reduceAdd, Nat.reduceEqDiff, Nat.reduceBEq, Nat.reduceLeDiff, Nat.reduceSub, Nat.reduceMul, Int.reduceEq, Int.reduceLT, Int.reduceLE, Int.reduceSub, Int.reduceAdd, Int.reduceToNat, reduceCtorEq, Int.reduceNeg, TF3, TF4, TF9, TF23, TF25, TF58]; refine ⟨_, .inl ⟨_, rfl, ok_TKind p h t.name, rfl⟩, ?_⟩; (try simp -implicitDefEqProofs only [EV, forall_const, implies_true, Nat.reduceAdd, Nat.reduceEqDiff, Nat.reduceBEq, Nat.reduceLeDiff, Nat.reduceSub, Nat.reduceMul, Int.reduceEq, Int.reduceLT, Int.reduceLE, Int.reduceSub, Int.reduceAdd, Int.reduceToNat, reduceCtorEq, Int.reduceNeg, TF3, TF4, TF9, TF23, TF25, TF58]); refine hK _ _ ?_; clear hK K)
  refine AWp.ifRetK rfl hK1 (fun hc => ?_) (fun hc => ?_)
  · rw [if_neg (by simpa using hc)] at heqn
    rw [heqn]
    exact AWp.ret ⟨_, by rw [Try.results28]; rfl, .inr rfl, by simp [ble, bget]⟩
  rw [if_pos (by simpa using hc)] at heqn
  clear hc
  have hk9 := key9 t.name hok.name
  (refine AWp.seqR [0, 1, 2, 4, 7, 12, 17, 18, 19, 20, 1000000] [] (by decide +kernel) fun K hK => ?_; simp -implicitDefEqProofs only [EV, forall_const, implies_true, Nat.reduceAdd, Nat.reduceEqDiff, Nat.reduceBEq, Nat.reduceLeDiff, Nat.reduceSub, Nat.reduceMul, Int.reduceEq, Int.reduceLT, Int.reduceLE, Int.reduceSub, Int.reduceAdd, Int.reduceToNat, reduceCtorEq, Int.reduceNeg, TF3, TF4, TF9, TF23, TF25, TF58]; refine ⟨hm, hk9, ?_⟩; (try simp -implicitDefEqProofs only [EV, forall_const, implies_true, Nat.reduceAdd, Nat.reduceEqDiff, Nat.reduceBEq, Nat.reduceLeDiff, Nat.reduceSub, Nat.reduceMul, Int.reduceEq, Int.reduceLT, Int.reduceLE, Int.reduceSub, Int.reduceAdd, Int.reduceToNat, reduceCtorEq, Int.reduceNeg, TF3, TF4, TF9, TF23, TF25, TF58]); refine hK _ _ ?_; clear hK K)
  (refine AWp.seqR [0, 1, 2, 4, 7, 12, 17, 18, 19, 20, 1000000] [] (by decide +kernel) fun K hK => ?_; simp -implicitDefEqProofs only [EV, forall_const, implies_true, Nat.reduceAdd, Nat.reduceEqDiff, Nat.reduceBEq, Nat.reduceLeDiff, Nat.reduceSub, Nat.reduceMul, Int.reduceEq, Int.reduceLT, Int.reduceLE, Int.reduceSub, Int.reduceAdd, Int.reduceToNat, reduceCtorEq, Int.reduceNeg, TF3, TF4, TF9, TF23, TF25, TF58]; refine hK _ _ ?_; clear hK K)
  refine AWp.block (AWp.forIdx t.args (fun j _ => [(0, .dptr (tabC p) 0), (2, .mp 1000000), (17, tysV t.args), (18, intV t.args.length), (19, intV j)]) (fun _ m' => [(1000000, .map m')])
    (fun j m' => (∀ kv, kv ∈ m' → KeyAt Try.prog 9 kv.1) ∧ Ty.gatherL p (t.args.drop j) m' = t.gather p m) (kput (.str t.name) (.bool true) m) ⟨kput_keys hm hk9, by rw [heqn]; rfl⟩ (by simp [sle, vle, sget]) (by simp [ble, bget, exC, tyC, foC, paC, siC, deC, prC]) ?_ ?_)
  · rintro m' ⟨h1, h2⟩
    rw [List.drop_length, Ty.gatherL] at h2
    (refine AWp.seqR [0, 1, 2, 4, 7, 12, 17, 18, 19, 20, 1000000] [] (by decide +kernel) fun K hK => ?_; simp -implicitDefEqProofs only [EV, forall_const, implies_true, Nat.reduceAdd, Nat.reduceEqDiff, Nat.reduceBEq, Nat.reduceLeDiff, Nat.reduceSub, Nat.reduceMul, Int.reduceEq, Int.reduceLT, Int.reduceLE, Int.reduceSub, Int.reduceAdd, Int.reduceToNat, reduceCtorEq, Int.reduceNeg, TF3, TF4, TF9, TF23, TF25, TF58, Int.lt_irrefl]; refine hK _ _ ?_; clear hK K)
    refine AWp.stop rfl ?_
    rw [← h2]
    simp only [thenA, blockA, if_true]
    exact ⟨_, by rw [Try.results28]; rfl, .inr rfl, by simp [ble, bget]⟩
  · rintro j m' x hx hmem hdrop _ hlt ⟨h1, h2⟩
    rw [hdrop, Ty.gatherL] at h2
    (refine AWp.seqR [0, 1, 2, 4, 7, 12, 17, 18, 19, 20, 1000000] [] (by decide +kernel) fun K hK => ?_; simp -implicitDefEqProofs only [EV, forall_const, implies_true, Nat.reduceAdd, Nat.reduceEqDiff, Nat.reduceBEq, Nat.reduceLeDiff, Nat.reduceSub, Nat.reduceMul, Int.reduceEq, Int.reduceLT, Int.reduceLE, Int.reduceSub, Int.reduceAdd, Int.reduceToNat, reduceCtorEq, Int.reduceNeg, TF3, TF4, TF9, TF23, TF25, TF58, hlt]; refine hK _ _ ?_; clear hK K)
    refine AWp.goOn rfl ?_
    refine AWp.seqK fun K1 hK1 => ?_
    refine AWp.block ?_
    (refine AWp.seqR [0, 1, 2, 4, 7, 12, 17, 18, 19, 20, 1000000] [] (by decide +kernel) fun K hK => ?_; simp -implicitDefEqProofs only [EV, forall_const, implies_true, Nat.reduceAdd, Nat.reduceEqDiff, Nat.reduceBEq, Nat.reduceLeDiff, Nat.reduceSub, Nat.reduceMul, Int.reduceEq, Int.reduceLT, Int.reduceLE, Int.reduceSub, Int.reduceAdd, Int.reduceToNat, reduceCtorEq, Int.reduceNeg, TF3, TF4, TF9, TF23, TF25, TF58]; refine ⟨by omega, _, tyR_get hx, rfl, ?_⟩; (try simp -implicitDefEqProofs only [EV, forall_const, implies_true, Nat.reduceAdd, Nat.reduceEqDiff, Nat.reduceBEq, Nat.reduceLeDiff, Nat.reduceSub, Nat.reduceMul, Int.reduceEq, Int.reduceLT, Int.reduceLE, Int.reduceSub, Int.reduceAdd, Int.reduceToNat, reduceCtorEq, Int.reduceNeg, TF3, TF4, TF9, TF23, TF25, TF58]); refine hK _ _ ?_; clear hK K)
    (refine AWp.lastR [0, 1, 2, 4, 7, 12, 17, 18, 19, 20, 1000000] [] (by decide +kernel) fun K hK => ?_; simp -implicitDefEqProofs only [EV, forall_const, implies_true, Nat.reduceAdd, Nat.reduceEqDiff, Nat.reduceBEq, Nat.reduceLeDiff, Nat.reduceSub, Nat.reduceMul, Int.reduceEq, Int.reduceLT, Int.reduceLE, Int.reduceSub, Int.reduceAdd, Int.reduceToNat, reduceCtorEq, Int.reduceNeg, TF3, TF4, TF9, TF23, TF25, TF58]; refine ⟨_, _, _, rfl, (by rfl), (by rfl), ih x hmem (ht.arg x hmem) m' h1, (by rfl), ?_⟩; (try simp -implicitDefEqProofs only [EV, forall_const, implies_true, Nat.reduceAdd, Nat.reduceEqDiff, Nat.reduceBEq, Nat.reduceLeDiff, Nat.reduceSub, Nat.reduceMul, Int.reduceEq, Int.reduceLT, Int.reduceLE, Int.reduceSub, Int.reduceAdd, Int.reduceToNat, reduceCtorEq, Int.reduceNeg, TF3, TF4, TF9, TF23, TF25, TF58]); refine hK _ _ ?_; clear hK K; try simp only [thenA, blockA, if_true])
    refine hK1 _ _ ?_
    clear hK1 K1
    (refine AWp.lastR [0, 1, 2, 4, 7, 12, 17, 18, 19, 20, 1000000] [] (by decide +kernel) fun K hK => ?_; simp -implicitDefEqProofs only [EV, forall_const, implies_true, Nat.reduceAdd, Nat.reduceEqDiff, Nat.reduceBEq, Nat.reduceLeDiff, Nat.reduceSub, Nat.reduceMul, Int.reduceEq, Int.reduceLT, Int.reduceLE, Int.reduceSub, Int.reduceAdd, Int.reduceToNat, reduceCtorEq, Int.reduceNeg, TF3, TF4, TF9, TF23, TF25, TF58]; refine ⟨by first | (unfold InR; omega) | (simp only [InR, sm, lim] at *; omega), ?_⟩; (try simp -implicitDefEqProofs only [EV, forall_const, implies_true, Nat.reduceAdd, Nat.reduceEqDiff, Nat.reduceBEq, Nat.reduceLeDiff, Nat.reduceSub, Nat.reduceMul, Int.reduceEq, Int.reduceLT, Int.reduceLE, Int.reduceSub, Int.reduceAdd, Int.reduceToNat, reduceCtorEq, Int.reduceNeg, TF3, TF4, TF9, TF23, TF25, TF58]); refine hK _ _ ?_; clear hK K; try simp only [thenA, blockA, if_true])
    exact ⟨x.gather p m', ⟨gather_keys x (ht.arg x hmem) h1, h2⟩, (by simp [sle, vle, sget]), (by simp [ble, bget, exC, tyC, foC, paC, siC, deC, prC])⟩
end Go.Abs
