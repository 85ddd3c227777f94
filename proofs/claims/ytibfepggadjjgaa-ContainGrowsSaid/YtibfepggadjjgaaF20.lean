/- contain.Reach, Recursive, All -/
import Derived.Test.YtibfepggadjjgaaF19
namespace Go.Abs
set_option linter.unusedSimpArgs false
set_option linter.unusedVariables false
open Go Go.Proofs
set_option maxRecDepth 100000
set_option maxHeartbeats 1000000

def reachL (p : Prog) : Nat → List Str → List Str → List Str
  | 0, _, out => out
  | _ + 1, [], out => out
  | n + 1, s :: op, out => if s ∈ out then reachL p n op out else reachL p n (op ++ sortS (contN p s)) (addS out s)
def muR (N : Nat) (op out : List Str) : Nat := (N - out.length) * (N + 1) + op.length
def reachN (p : Prog) (nm : Str) : List Str := reachL p (muR p.decls.length (sortS (contN p nm)) []) (sortS (contN p nm)) []
theorem muR_add {p : Prog} {s : Str} {op out : List Str} (hw : Win p (addS out s)) (hs : s ∉ out) : muR p.decls.length (op ++ sortS (contN p s)) (addS out s) < muR p.decls.length (s :: op) out := by
  have h1 := hw.len
  have h2 : (addS out s).length = out.length + 1 := by simp [addS, hs]
  have h3 := (Win.contN p s).len
  unfold muR
  rw [List.length_append, sortS_len, h2]
  rw [h2] at h1
  generalize p.decls.length = N at *
  obtain ⟨q, hq⟩ : ∃ q, N = out.length + 1 + q := ⟨N - (out.length + 1), by omega⟩
  rw [show N - (out.length + 1) = q by omega, show N - out.length = q + 1 by omega, Nat.add_mul]
  simp only [List.length_cons]
  omega
theorem strR_cons (s : Str) (l : List Str) : strR (s :: l) = [.str s] :: strR l := rfl
theorem setD_keys {l : List Str} (h : ∀ s, s ∈ l → s.length ≤ lim) : ∀ kv, kv ∈ setD l → KeyAt Try.prog 9 kv.1 := by
  intro kv hkv
  obtain ⟨s, hs, rfl⟩ := List.mem_map.1 hkv
  exact key9 s (h s hs)

theorem ok_CReach (hs : SortedOK) (p : Prog) (h : p.Sm) (nm : Str) : CallOK Try.prog 13 [prV p, strV nm] (strsV (sortS (reachN p nm))) := by
  have hc := fun s => ok_contains p h s
  simp only [contM_set] at hc
  have hN := h.decls.1
  (refine CallOK.of_body Try.func13 rfl (by decide) (by rw [Try.ntmps13]; simp) ?_; rw [Try.ntmps13])
  (refine AWp.seqR [0, 1, 2, 4, 5, 6, 7, 8, 11, 15, 18, 26] [] (by decide +kernel) fun K hK => ?_; simp -implicitDefEqProofs only [EV, forall_const, implies_true, Nat.reduceAdd, Nat.reduceEqDiff, Nat.reduceBEq, Nat.reduceLeDiff, Nat.reduceSub, Nat.reduceMul, Int.reduceEq, Int.reduceLT, Int.reduceLE, Int.reduceSub, Int.reduceAdd, Int.reduceToNat, reduceCtorEq, Int.reduceNeg, TF3, TF4, TF9, TF30, TF33, TF58]; refine hK _ _ ?_; clear hK K)
  (refine AWp.seqR [0, 1, 2, 4, 5, 6, 7, 8, 11, 15, 18, 26] [] (by decide +kernel) fun K hK => ?_; simp -implicitDefEqProofs only [EV, forall_const, implies_true, Nat.reduceAdd, Nat.reduceEqDiff, Nat.reduceBEq, Nat.reduceLeDiff, Nat.reduceSub, Nat.reduceMul, Int.reduceEq, Int.reduceLT, Int.reduceLE, Int.reduceSub, Int.reduceAdd, Int.reduceToNat, reduceCtorEq, Int.reduceNeg, TF3, TF4, TF9, TF30, TF33, TF58]; refine ⟨_, .inl ⟨_, rfl, ok_New p h, rfl⟩, ?_⟩; (try simp -implicitDefEqProofs only [EV, forall_const, implies_true, Nat.reduceAdd, Nat.reduceEqDiff, Nat.reduceBEq, Nat.reduceLeDiff, Nat.reduceSub, Nat.reduceMul, Int.reduceEq, Int.reduceLT, Int.reduceLE, Int.reduceSub, Int.reduceAdd, Int.reduceToNat, reduceCtorEq, Int.reduceNeg, TF3, TF4, TF9, TF30, TF33, TF58]); refine hK _ _ ?_; clear hK K)
  (refine AWp.seqR [0, 1, 2, 4, 5, 6, 7, 8, 11, 15, 18, 26] [] (by decide +kernel) fun K hK => ?_; simp -implicitDefEqProofs only [EV, forall_const, implies_true, Nat.reduceAdd, Nat.reduceEqDiff, Nat.reduceBEq, Nat.reduceLeDiff, Nat.reduceSub, Nat.reduceMul, Int.reduceEq, Int.reduceLT, Int.reduceLE, Int.reduceSub, Int.reduceAdd, Int.reduceToNat, reduceCtorEq, Int.reduceNeg, TF3, TF4, TF9, TF30, TF33, TF58]; refine hK _ _ ?_; clear hK K)
  (refine AWp.seqR [0, 1, 2, 4, 5, 6, 7, 8, 11, 15, 18, 26] [15] (by decide +kernel) fun K hK => ?_; simp -implicitDefEqProofs only [EV, forall_const, implies_true, Nat.reduceAdd, Nat.reduceEqDiff, Nat.reduceBEq, Nat.reduceLeDiff, Nat.reduceSub, Nat.reduceMul, Int.reduceEq, Int.reduceLT, Int.reduceLE, Int.reduceSub, Int.reduceAdd, Int.reduceToNat, reduceCtorEq, Int.reduceNeg, TF3, TF4, TF9, TF30, TF33, TF58]; refine ⟨_, .inl ⟨_, rfl, hc nm, rfl⟩, ?_⟩; (try simp -implicitDefEqProofs only [EV, forall_const, implies_true, Nat.reduceAdd, Nat.reduceEqDiff, Nat.reduceBEq, Nat.reduceLeDiff, Nat.reduceSub, Nat.reduceMul, Int.reduceEq, Int.reduceLT, Int.reduceLE, Int.reduceSub, Int.reduceAdd, Int.reduceToNat, reduceCtorEq, Int.reduceNeg, TF3, TF4, TF9, TF30, TF33, TF58]); refine ⟨_, _, _, _, rfl, hs.win h (Win.contN p nm), ?_⟩; (try simp -implicitDefEqProofs only [EV, forall_const, implies_true, Nat.reduceAdd, Nat.reduceEqDiff, Nat.reduceBEq, Nat.reduceLeDiff, Nat.reduceSub, Nat.reduceMul, Int.reduceEq, Int.reduceLT, Int.reduceLE, Int.reduceSub, Int.reduceAdd, Int.reduceToNat, reduceCtorEq, Int.reduceNeg, TF3, TF4, TF9, TF30, TF33, TF58]); refine hK _ _ ?_; clear hK K)
  refine AWp.seqK fun K1 hK1 => ?_
  refine AWp.block (AWp.loop (X := Nat × List Str × List Str) (fun x => [(5, .dptr (tabC p) 0), (6, .mp 11), (7, .acc 15)]) (fun x => [(11, .map (setD x.2.2)), (15, .rows 1 (strR x.2.1))])
    (fun x => Win p x.2.2 ∧ (∀ s, s ∈ x.2.1 → kindOf p s = 1) ∧ muR p.decls.length x.2.1 x.2.2 ≤ x.1 ∧ x.1 ≤ p.decls.length * (p.decls.length + 1) + p.decls.length ∧ reachL p x.1 x.2.1 x.2.2 = reachN p nm) (fun x => x.1)
    (muR p.decls.length (sortS (contN p nm)) [], sortS (contN p nm), []) ?_ ?_ ?_ ?_)
  · refine ⟨Win.nil p, fun s hs' => (Win.contN p nm).isS s (mem_sortS.1 hs'), Nat.le_refl _, ?_, rfl⟩
    have := (Win.contN p nm).len
    simp only [muR, List.length_nil, sortS_len, Nat.sub_zero]
    omega
  · exact (by simp [sle, vle, sget])
  · simp [ble, bget, setD]
  rintro ⟨n, op, out⟩ ⟨hw, hk, hmu, hn, hI⟩
  simp only at hw hk hmu hn hI
  cases op with
  | nil =>
    have hI : out = reachN p nm := by rw [← hI]; cases n <;> rfl
    refine AWp.seqK fun K2 hK2 => ?_
    (refine AWp.seqR [0, 1, 2, 4, 5, 6, 7, 8, 11, 15, 18, 26] [] (by decide +kernel) fun K hK => ?_; simp -implicitDefEqProofs only [EV, forall_const, implies_true, Nat.reduceAdd, Nat.reduceEqDiff, Nat.reduceBEq, Nat.reduceLeDiff, Nat.reduceSub, Nat.reduceMul, Int.reduceEq, Int.reduceLT, Int.reduceLE, Int.reduceSub, Int.reduceAdd, Int.reduceToNat, reduceCtorEq, Int.reduceNeg, TF3, TF4, TF9, TF30, TF33, TF58, strR]; refine hK _ _ ?_; clear hK K)
    refine AWp.stopK rfl ?_
    simp only [thenA, blockA, if_true]
    refine hK1 _ _ ?_
    clear hK1 K1 hK2 K2
    subst hI
    refine AWp.publishMap 11 rfl ?_
    (refine AWp.seqR [0, 1, 2, 4, 5, 6, 7, 8, 11, 15, 18, 26] [] (by decide +kernel) fun K hK => ?_; simp -implicitDefEqProofs only [EV, forall_const, implies_true, Nat.reduceAdd, Nat.reduceEqDiff, Nat.reduceBEq, Nat.reduceLeDiff, Nat.reduceSub, Nat.reduceMul, Int.reduceEq, Int.reduceLT, Int.reduceLE, Int.reduceSub, Int.reduceAdd, Int.reduceToNat, reduceCtorEq, Int.reduceNeg, TF3, TF4, TF9, TF30, TF33, TF58, spurge]; refine ⟨_, .inl ⟨_, rfl, (hs.win h hw).pub, rfl⟩, ?_⟩; (try simp -implicitDefEqProofs only [EV, forall_const, implies_true, Nat.reduceAdd, Nat.reduceEqDiff, Nat.reduceBEq, Nat.reduceLeDiff, Nat.reduceSub, Nat.reduceMul, Int.reduceEq, Int.reduceLT, Int.reduceLE, Int.reduceSub, Int.reduceAdd, Int.reduceToNat, reduceCtorEq, Int.reduceNeg, TF3, TF4, TF9, TF30, TF33, TF58, spurge]); refine hK _ _ ?_; clear hK K)
    exact AWp.ret ⟨_, by rw [Try.results13]; rfl, rfl⟩
  | cons s op =>
    have hpos : 0 < n := by simp only [muR, List.length_cons] at hmu; omega
    obtain ⟨n, rfl⟩ : ∃ m, n = m + 1 := ⟨n - 1, by omega⟩
    rw [reachL] at hI
    have hks := hk s (by simp)
    have hnames := hw.names h
    have hsl := hw.add (s := s) hks |>.names h s (mem_addS.2 (.inl rfl))
    have hk9 := key9 s hsl
    have hkeys := setD_keys hnames
    have hgt : 0 < ((op.length + 1 : Nat) : Int) := by omega
    refine AWp.seqK fun K2 hK2 => ?_
    (refine AWp.seqR [0, 1, 2, 4, 5, 6, 7, 8, 11, 15, 18, 26] [] (by decide +kernel) fun K hK => ?_; simp -implicitDefEqProofs only [EV, forall_const, implies_true, Nat.reduceAdd, Nat.reduceEqDiff, Nat.reduceBEq, Nat.reduceLeDiff, Nat.reduceSub, Nat.reduceMul, Int.reduceEq, Int.reduceLT, Int.reduceLE, Int.reduceSub, Int.reduceAdd, Int.reduceToNat, reduceCtorEq, Int.reduceNeg, TF3, TF4, TF9, TF30, TF33, TF58, hgt, strR_len]; refine hK _ _ ?_; clear hK K)
    refine AWp.goOnK rfl hK2 ?_
    clear hK2 K2
    refine AWp.block ?_
    (refine AWp.seqR [0, 1, 2, 4, 5, 6, 7, 8, 11, 15, 18, 26] [] (by decide +kernel) fun K hK => ?_; simp -implicitDefEqProofs only [EV, forall_const, implies_true, Nat.reduceAdd, Nat.reduceEqDiff, Nat.reduceBEq, Nat.reduceLeDiff, Nat.reduceSub, Nat.reduceMul, Int.reduceEq, Int.reduceLT, Int.reduceLE, Int.reduceSub, Int.reduceAdd, Int.reduceToNat, reduceCtorEq, Int.reduceNeg, TF3, TF4, TF9, TF30, TF33, TF58, strR_cons]; refine ⟨by omega, ?_⟩; (try simp -implicitDefEqProofs only [EV, forall_const, implies_true, Nat.reduceAdd, Nat.reduceEqDiff, Nat.reduceBEq, Nat.reduceLeDiff, Nat.reduceSub, Nat.reduceMul, Int.reduceEq, Int.reduceLT, Int.reduceLE, Int.reduceSub, Int.reduceAdd, Int.reduceToNat, reduceCtorEq, Int.reduceNeg, TF3, TF4, TF9, TF30, TF33, TF58, strR_cons]); refine hK _ _ ?_; clear hK K)
    (refine AWp.seqR [0, 1, 2, 4, 5, 6, 7, 8, 11, 15, 18, 26] [] (by decide +kernel) fun K hK => ?_; simp -implicitDefEqProofs only [EV, forall_const, implies_true, Nat.reduceAdd, Nat.reduceEqDiff, Nat.reduceBEq, Nat.reduceLeDiff, Nat.reduceSub, Nat.reduceMul, Int.reduceEq, Int.reduceLT, Int.reduceLE, Int.reduceSub, Int.reduceAdd, Int.reduceToNat, reduceCtorEq, Int.reduceNeg, TF3, TF4, TF9, TF30, TF33, TF58, strR_len, List.drop_one, List.tail_cons]; refine ⟨by omega, ?_⟩; (try simp -implicitDefEqProofs only [EV, forall_const, implies_true, Nat.reduceAdd, Nat.reduceEqDiff, Nat.reduceBEq, Nat.reduceLeDiff, Nat.reduceSub, Nat.reduceMul, Int.reduceEq, Int.reduceLT, Int.reduceLE, Int.reduceSub, Int.reduceAdd, Int.reduceToNat, reduceCtorEq, Int.reduceNeg, TF3, TF4, TF9, TF30, TF33, TF58, strR_len, List.drop_one, List.tail_cons]); refine hK _ _ ?_; clear hK K)
    refine AWp.seqK fun K3 hK3 => ?_
    (refine AWp.seqR [0, 1, 2, 4, 5, 6, 7, 8, 11, 15, 18, 26] [] (by decide +kernel) fun K hK => ?_; simp -implicitDefEqProofs only [EV, forall_const, implies_true, Nat.reduceAdd, Nat.reduceEqDiff, Nat.reduceBEq, Nat.reduceLeDiff, Nat.reduceSub, Nat.reduceMul, Int.reduceEq, Int.reduceLT, Int.reduceLE, Int.reduceSub, Int.reduceAdd, Int.reduceToNat, reduceCtorEq, Int.reduceNeg, TF3, TF4, TF9, TF30, TF33, TF58, look_setD]; refine ⟨hkeys, hk9, ?_⟩; (try simp -implicitDefEqProofs only [EV, forall_const, implies_true, Nat.reduceAdd, Nat.reduceEqDiff, Nat.reduceBEq, Nat.reduceLeDiff, Nat.reduceSub, Nat.reduceMul, Int.reduceEq, Int.reduceLT, Int.reduceLE, Int.reduceSub, Int.reduceAdd, Int.reduceToNat, reduceCtorEq, Int.reduceNeg, TF3, TF4, TF9, TF30, TF33, TF58, look_setD]); refine hK _ _ ?_; clear hK K)
    by_cases hin : s ∈ out
    · rw [if_pos hin] at hI
      refine AWp.condT (by simp [opnd, sget, hin]) (AWp.exit ?_)
      simp only [thenA, blockA, if_true]
      refine ⟨(n, op, out), ⟨hw, fun x hx => hk x (by simp [hx]), ?_, by simp only; omega, hI⟩, by simp only; omega, (by simp [sle, vle, sget]), (by simp [ble, bget, exC, tyC, foC, paC, siC, deC, prC])⟩
      simp only [muR, List.length_cons] at hmu ⊢
      omega
    · rw [if_neg hin] at hI
      refine AWp.condF (by simp [opnd, sget, hin]) (AWp.skip (hK3 _ _ ?_))
      clear hK3 K3
      have hmu2 := muR_add (hw.add hks) hin (op := op)
      have hlen : (op ++ sortS (contN p s)).length ≤ sm * (sm + 1) + sm := by
        have h1 : (op ++ sortS (contN p s)).length ≤ muR p.decls.length (op ++ sortS (contN p s)) (addS out s) := by unfold muR; omega
        have h2 : p.decls.length * (p.decls.length + 1) ≤ sm * (sm + 1) := Nat.mul_le_mul hN (by omega)
        omega
      (refine AWp.seqR [0, 1, 2, 4, 5, 6, 7, 8, 11, 15, 18, 26] [] (by decide +kernel) fun K hK => ?_; simp -implicitDefEqProofs only [EV, forall_const, implies_true, Nat.reduceAdd, Nat.reduceEqDiff, Nat.reduceBEq, Nat.reduceLeDiff, Nat.reduceSub, Nat.reduceMul, Int.reduceEq, Int.reduceLT, Int.reduceLE, Int.reduceSub, Int.reduceAdd, Int.reduceToNat, reduceCtorEq, Int.reduceNeg, TF3, TF4, TF9, TF30, TF33, TF58, kput_setD]; refine ⟨hkeys, hk9, ?_⟩; (try simp -implicitDefEqProofs only [EV, forall_const, implies_true, Nat.reduceAdd, Nat.reduceEqDiff, Nat.reduceBEq, Nat.reduceLeDiff, Nat.reduceSub, Nat.reduceMul, Int.reduceEq, Int.reduceLT, Int.reduceLE, Int.reduceSub, Int.reduceAdd, Int.reduceToNat, reduceCtorEq, Int.reduceNeg, TF3, TF4, TF9, TF30, TF33, TF58, kput_setD]); refine hK _ _ ?_; clear hK K)
      (refine AWp.lastR [0, 1, 2, 4, 5, 6, 7, 8, 11, 15, 18, 26] [] (by decide +kernel) fun K hK => ?_; simp -implicitDefEqProofs only [EV, forall_const, implies_true, Nat.reduceAdd, Nat.reduceEqDiff, Nat.reduceBEq, Nat.reduceLeDiff, Nat.reduceSub, Nat.reduceMul, Int.reduceEq, Int.reduceLT, Int.reduceLE, Int.reduceSub, Int.reduceAdd, Int.reduceToNat, reduceCtorEq, Int.reduceNeg, TF3, TF4, TF9, TF30, TF33, TF58, strR_len]; refine ⟨_, .inl ⟨_, rfl, hc s, rfl⟩, ?_⟩; (try simp -implicitDefEqProofs only [EV, forall_const, implies_true, Nat.reduceAdd, Nat.reduceEqDiff, Nat.reduceBEq, Nat.reduceLeDiff, Nat.reduceSub, Nat.reduceMul, Int.reduceEq, Int.reduceLT, Int.reduceLE, Int.reduceSub, Int.reduceAdd, Int.reduceToNat, reduceCtorEq, Int.reduceNeg, TF3, TF4, TF9, TF30, TF33, TF58, strR_len]); refine ⟨_, .inl ⟨_, rfl, (hs.win h (Win.contN p s)).pub, rfl⟩, ?_⟩; (try simp -implicitDefEqProofs only [EV, forall_const, implies_true, Nat.reduceAdd, Nat.reduceEqDiff, Nat.reduceBEq, Nat.reduceLeDiff, Nat.reduceSub, Nat.reduceMul, Int.reduceEq, Int.reduceLT, Int.reduceLE, Int.reduceSub, Int.reduceAdd, Int.reduceToNat, reduceCtorEq, Int.reduceNeg, TF3, TF4, TF9, TF30, TF33, TF58, strR_len]); refine ⟨strR_row _, by rw [List.length_append] at hlen; simp only [sm, lim] at *; omega, ?_⟩; (try simp -implicitDefEqProofs only [EV, forall_const, implies_true, Nat.reduceAdd, Nat.reduceEqDiff, Nat.reduceBEq, Nat.reduceLeDiff, Nat.reduceSub, Nat.reduceMul, Int.reduceEq, Int.reduceLT, Int.reduceLE, Int.reduceSub, Int.reduceAdd, Int.reduceToNat, reduceCtorEq, Int.reduceNeg, TF3, TF4, TF9, TF30, TF33, TF58, strR_len]); refine hK _ _ ?_; clear hK K; try simp only [thenA, blockA, if_true])
      refine ⟨(n, op ++ sortS (contN p s), addS out s), ⟨hw.add hks, ?_, by simp only; omega, by simp only; omega, hI⟩, by simp only; omega, (by simp [sle, vle, sget]), by simp [ble, bget, strR_append]⟩
      intro x hx
      rcases List.mem_append.1 hx with hx | hx
      · exact hk x (by simp [hx])
      · exact (Win.contN p s).isS x (mem_sortS.1 hx)

theorem reachL_win {p : Prog} : ∀ (n : Nat) {op out : List Str}, Win p out → (∀ s, s ∈ op → kindOf p s = 1) → Win p (reachL p n op out)
  | 0, _, _, h, _ => h
  | _ + 1, [], _, h, _ => h
  | n + 1, s :: op, out, h, hk => by
    simp only [reachL]
    split
    · exact reachL_win n h fun x hx => hk x (by simp [hx])
    · refine reachL_win n (h.add (hk s (by simp))) fun x hx => ?_
      rcases List.mem_append.1 hx with hx | hx
      · exact hk x (by simp [hx])
      · exact (Win.contN p s).isS x (mem_sortS.1 hx)
theorem reachN_win (p : Prog) (nm : Str) : Win p (reachN p nm) := reachL_win _ (Win.nil p) fun s hs => (Win.contN p nm).isS s (mem_sortS.1 hs)
theorem sortS_asc {l : List Str} (h : l.Nodup) : Asc (sortS l) := by
  have h1 : (sortS l).Nodup := (sortS_perm l).nodup_iff.2 h
  have h2 : (sortS l).Pairwise fun a b => decide (a ≤ b) = true := List.pairwise_mergeSort (fun a b c h k => by simp only [decide_eq_true_eq] at *; exact List.le_trans h k) (fun a b => by
    simp only [Bool.or_eq_true, decide_eq_true_eq]; exact List.le_total a b) l
  refine (h2.and h1).imp ?_
  rintro a b ⟨h3, h4⟩
  simp only [decide_eq_true_eq] at h3
  exact Classical.byContradiction fun hc => h4 (List.le_antisymm h3 (List.not_lt.1 hc))

theorem ok_CRec (hs : SortedOK) (p : Prog) (h : p.Sm) (nm : Str) : CallOK Try.prog 14 [prV p, strV nm] (boolV (decide (nm ∈ reachN p nm))) := by
  have hb := ok_BS (sortS (reachN p nm)) nm (sortS_asc (reachN_win p nm).nodup)
  have hd : decide (nm ∈ sortS (reachN p nm)) = decide (nm ∈ reachN p nm) := by simp [mem_sortS]
  rw [hd] at hb
  (refine CallOK.of_body Try.func14 rfl (by decide) (by rw [Try.ntmps14]; simp) ?_; rw [Try.ntmps14])
  (refine AWp.seqR [0, 1, 2, 4, 6] [] (by decide +kernel) fun K hK => ?_; simp -implicitDefEqProofs only [EV, forall_const, implies_true, Nat.reduceAdd, Nat.reduceEqDiff, Nat.reduceBEq, Nat.reduceLeDiff, Nat.reduceSub, Nat.reduceMul, Int.reduceEq, Int.reduceLT, Int.reduceLE, Int.reduceSub, Int.reduceAdd, Int.reduceToNat, reduceCtorEq, Int.reduceNeg, TF3, TF4, TF9, TF30]; refine hK _ _ ?_; clear hK K)
  (refine AWp.seqR [0, 1, 2, 4, 6] [] (by decide +kernel) fun K hK => ?_; simp -implicitDefEqProofs only [EV, forall_const, implies_true, Nat.reduceAdd, Nat.reduceEqDiff, Nat.reduceBEq, Nat.reduceLeDiff, Nat.reduceSub, Nat.reduceMul, Int.reduceEq, Int.reduceLT, Int.reduceLE, Int.reduceSub, Int.reduceAdd, Int.reduceToNat, reduceCtorEq, Int.reduceNeg, TF3, TF4, TF9, TF30]; refine ⟨_, .inl ⟨_, rfl, ok_CReach hs p h nm, rfl⟩, ?_⟩; (try simp -implicitDefEqProofs only [EV, forall_const, implies_true, Nat.reduceAdd, Nat.reduceEqDiff, Nat.reduceBEq, Nat.reduceLeDiff, Nat.reduceSub, Nat.reduceMul, Int.reduceEq, Int.reduceLT, Int.reduceLE, Int.reduceSub, Int.reduceAdd, Int.reduceToNat, reduceCtorEq, Int.reduceNeg, TF3, TF4, TF9, TF30]); refine ⟨_, .inl ⟨_, rfl, hb, rfl⟩, ?_⟩; (try simp -implicitDefEqProofs only [EV, forall_const, implies_true, Nat.reduceAdd, Nat.reduceEqDiff, Nat.reduceBEq, Nat.reduceLeDiff, Nat.reduceSub, Nat.reduceMul, Int.reduceEq, Int.reduceLT, Int.reduceLE, Int.reduceSub, Int.reduceAdd, Int.reduceToNat, reduceCtorEq, Int.reduceNeg, TF3, TF4, TF9, TF30]); refine hK _ _ ?_; clear hK K)
  (refine AWp.seqR [0, 1, 2, 4, 6] [] (by decide +kernel) fun K hK => ?_; simp -implicitDefEqProofs only [EV, forall_const, implies_true, Nat.reduceAdd, Nat.reduceEqDiff, Nat.reduceBEq, Nat.reduceLeDiff, Nat.reduceSub, Nat.reduceMul, Int.reduceEq, Int.reduceLT, Int.reduceLE, Int.reduceSub, Int.reduceAdd, Int.reduceToNat, reduceCtorEq, Int.reduceNeg, TF3, TF4, TF9, TF30]; refine hK _ _ ?_; clear hK K)
  exact AWp.ret ⟨_, by rw [Try.results14]; rfl, rfl⟩

def allF (p : Prog) : List Decl → List Str → List Str
  | [], out => out
  | d :: ds, out => allF p ds (if d.name ∈ reachN p d.name then addS out d.name else out)
def allN (p : Prog) : List Str := allF p p.decls []
theorem ok_CAll (hs : SortedOK) (p : Prog) (h : p.Sm) : CallOK Try.prog 20 [prV p] (strsV (sortS (allN p))) := by
  have hN := h.decls.1
  (refine CallOK.of_body Try.func20 rfl (by decide) (by rw [Try.ntmps20]; simp) ?_; rw [Try.ntmps20])
  (refine AWp.seqR [0, 1, 2, 3, 5, 6, 8, 9, 10, 11, 17] [] (by decide +kernel) fun K hK => ?_; simp -implicitDefEqProofs only [EV, forall_const, implies_true, Nat.reduceAdd, Nat.reduceEqDiff, Nat.reduceBEq, Nat.reduceLeDiff, Nat.reduceSub, Nat.reduceMul, Int.reduceEq, Int.reduceLT, Int.reduceLE, Int.reduceSub, Int.reduceAdd, Int.reduceToNat, reduceCtorEq, Int.reduceNeg, TF3, TF4, TF9, TF22, TF30, TF49, TF58]; refine hK _ _ ?_; clear hK K)
  (refine AWp.seqR [0, 1, 2, 3, 5, 6, 8, 9, 10, 11, 17] [] (by decide +kernel) fun K hK => ?_; simp -implicitDefEqProofs only [EV, forall_const, implies_true, Nat.reduceAdd, Nat.reduceEqDiff, Nat.reduceBEq, Nat.reduceLeDiff, Nat.reduceSub, Nat.reduceMul, Int.reduceEq, Int.reduceLT, Int.reduceLE, Int.reduceSub, Int.reduceAdd, Int.reduceToNat, reduceCtorEq, Int.reduceNeg, TF3, TF4, TF9, TF22, TF30, TF49, TF58]; refine hK _ _ ?_; clear hK K)
  refine AWp.seqK fun K1 hK1 => ?_
  (refine AWp.seqR [0, 1, 2, 3, 5, 6, 8, 9, 10, 11, 17] [] (by decide +kernel) fun K hK => ?_; simp -implicitDefEqProofs only [EV, forall_const, implies_true, Nat.reduceAdd, Nat.reduceEqDiff, Nat.reduceBEq, Nat.reduceLeDiff, Nat.reduceSub, Nat.reduceMul, Int.reduceEq, Int.reduceLT, Int.reduceLE, Int.reduceSub, Int.reduceAdd, Int.reduceToNat, reduceCtorEq, Int.reduceNeg, TF3, TF4, TF9, TF22, TF30, TF49, TF58]; refine hK _ _ ?_; clear hK K)
  refine AWp.block (AWp.forIdx p.decls (fun j _ => [(1, .box 1 0), (3, .mp 6), (8, .d (.slice (deR p.decls))), (9, intV p.decls.length), (10, intV j)]) (fun _ out => [(1, .cells ((prC p).map .d)), (6, .map (setD out))])
    (fun j out => out.Nodup ∧ out.length ≤ j ∧ (∀ s, s ∈ out → s.length ≤ lim) ∧ allF p (p.decls.drop j) out = allN p) [] ⟨by simp, by simp, by simp, rfl⟩ (by simp [sle, vle, sget]) (by simp [ble, bget, setD, prC]) ?_ ?_)
  · rintro out ⟨h1, h2, h3, hI⟩
    rw [List.drop_length, allF] at hI
    subst hI
    (refine AWp.seqR [0, 1, 2, 3, 5, 6, 8, 9, 10, 11, 17] [] (by decide +kernel) fun K hK => ?_; simp -implicitDefEqProofs only [EV, forall_const, implies_true, Nat.reduceAdd, Nat.reduceEqDiff, Nat.reduceBEq, Nat.reduceLeDiff, Nat.reduceSub, Nat.reduceMul, Int.reduceEq, Int.reduceLT, Int.reduceLE, Int.reduceSub, Int.reduceAdd, Int.reduceToNat, reduceCtorEq, Int.reduceNeg, TF3, TF4, TF9, TF22, TF30, TF49, TF58, Int.lt_irrefl]; refine hK _ _ ?_; clear hK K)
    refine AWp.stop rfl ?_
    simp only [thenA, blockA, if_true]
    refine hK1 _ _ ?_
    clear hK1 K1
    refine AWp.publishMap 6 rfl ?_
    (refine AWp.seqR [0, 1, 2, 3, 5, 6, 8, 9, 10, 11, 17] [] (by decide +kernel) fun K hK => ?_; simp -implicitDefEqProofs only [EV, forall_const, implies_true, Nat.reduceAdd, Nat.reduceEqDiff, Nat.reduceBEq, Nat.reduceLeDiff, Nat.reduceSub, Nat.reduceMul, Int.reduceEq, Int.reduceLT, Int.reduceLE, Int.reduceSub, Int.reduceAdd, Int.reduceToNat, reduceCtorEq, Int.reduceNeg, TF3, TF4, TF9, TF22, TF30, TF49, TF58, spurge]; refine ⟨_, .inl ⟨_, rfl, (hs _ h1 (by omega) h3).pub, rfl⟩, ?_⟩; (try simp -implicitDefEqProofs only [EV, forall_const, implies_true, Nat.reduceAdd, Nat.reduceEqDiff, Nat.reduceBEq, Nat.reduceLeDiff, Nat.reduceSub, Nat.reduceMul, Int.reduceEq, Int.reduceLT, Int.reduceLE, Int.reduceSub, Int.reduceAdd, Int.reduceToNat, reduceCtorEq, Int.reduceNeg, TF3, TF4, TF9, TF22, TF30, TF49, TF58, spurge]); refine hK _ _ ?_; clear hK K)
    exact AWp.ret ⟨_, by rw [Try.results20]; rfl, rfl⟩
  · rintro j out d hd hmem hdrop _ hlt ⟨h1, h2, h3, hI⟩
    rw [hdrop, allF] at hI
    have hdn : d.name.length ≤ lim := Nat.le_trans (h.decls.2 d hmem).name (by decide)
    (refine AWp.seqR [0, 1, 2, 3, 5, 6, 8, 9, 10, 11, 17] [] (by decide +kernel) fun K hK => ?_; simp -implicitDefEqProofs only [EV, forall_const, implies_true, Nat.reduceAdd, Nat.reduceEqDiff, Nat.reduceBEq, Nat.reduceLeDiff, Nat.reduceSub, Nat.reduceMul, Int.reduceEq, Int.reduceLT, Int.reduceLE, Int.reduceSub, Int.reduceAdd, Int.reduceToNat, reduceCtorEq, Int.reduceNeg, TF3, TF4, TF9, TF22, TF30, TF49, TF58, hlt]; refine hK _ _ ?_; clear hK K)
    refine AWp.goOn rfl ?_
    refine AWp.seqK fun K2 hK2 => ?_
    refine AWp.block ?_
    (refine AWp.seqR [0, 1, 2, 3, 5, 6, 8, 9, 10, 11, 17] [] (by decide +kernel) fun K hK => ?_; simp -implicitDefEqProofs only [EV, forall_const, implies_true, Nat.reduceAdd, Nat.reduceEqDiff, Nat.reduceBEq, Nat.reduceLeDiff, Nat.reduceSub, Nat.reduceMul, Int.reduceEq, Int.reduceLT, Int.reduceLE, Int.reduceSub, Int.reduceAdd, Int.reduceToNat, reduceCtorEq, Int.reduceNeg, TF3, TF4, TF9, TF22, TF30, TF49, TF58]; refine ⟨by omega, _, deR_get hd, rfl, ?_⟩; (try simp -implicitDefEqProofs only [EV, forall_const, implies_true, Nat.reduceAdd, Nat.reduceEqDiff, Nat.reduceBEq, Nat.reduceLeDiff, Nat.reduceSub, Nat.reduceMul, Int.reduceEq, Int.reduceLT, Int.reduceLE, Int.reduceSub, Int.reduceAdd, Int.reduceToNat, reduceCtorEq, Int.reduceNeg, TF3, TF4, TF9, TF22, TF30, TF49, TF58]); refine hK _ _ ?_; clear hK K)
    (refine AWp.seqR [0, 1, 2, 3, 5, 6, 8, 9, 10, 11, 17] [] (by decide +kernel) fun K hK => ?_; simp -implicitDefEqProofs only [EV, forall_const, implies_true, Nat.reduceAdd, Nat.reduceEqDiff, Nat.reduceBEq, Nat.reduceLeDiff, Nat.reduceSub, Nat.reduceMul, Int.reduceEq, Int.reduceLT, Int.reduceLE, Int.reduceSub, Int.reduceAdd, Int.reduceToNat, reduceCtorEq, Int.reduceNeg, TF3, TF4, TF9, TF22, TF30, TF49, TF58]; refine ⟨_, .inl ⟨_, rfl, ok_CRec hs p h d.name, rfl⟩, ?_⟩; (try simp -implicitDefEqProofs only [EV, forall_const, implies_true, Nat.reduceAdd, Nat.reduceEqDiff, Nat.reduceBEq, Nat.reduceLeDiff, Nat.reduceSub, Nat.reduceMul, Int.reduceEq, Int.reduceLT, Int.reduceLE, Int.reduceSub, Int.reduceAdd, Int.reduceToNat, reduceCtorEq, Int.reduceNeg, TF3, TF4, TF9, TF22, TF30, TF49, TF58]); refine hK _ _ ?_; clear hK K)
    have nxt : ∀ sl bx out', sle sl [(1, .box 1 0), (3, .mp 6), (8, .d (.slice (deR p.decls))), (9, intV p.decls.length), (10, intV j)] → ble bx [(1, .cells ((prC p).map .d)), (6, .map (setD out'))] →
        out'.Nodup → out'.length ≤ j + 1 → (∀ s, s ∈ out' → s.length ≤ lim) → allF p (p.decls.drop (j + 1)) out' = allN p → K2 sl bx := by
      intro sl bx out' g1 g2 g3 g4 g5 g6
      refine hK2 _ _ (AWp.weaken g1 g2 ?_)
      clear hK2 K2
      (refine AWp.lastR [0, 1, 2, 3, 5, 6, 8, 9, 10, 11, 17] [] (by decide +kernel) fun K hK => ?_; simp -implicitDefEqProofs only [EV, forall_const, implies_true, Nat.reduceAdd, Nat.reduceEqDiff, Nat.reduceBEq, Nat.reduceLeDiff, Nat.reduceSub, Nat.reduceMul, Int.reduceEq, Int.reduceLT, Int.reduceLE, Int.reduceSub, Int.reduceAdd, Int.reduceToNat, reduceCtorEq, Int.reduceNeg, TF3, TF4, TF9, TF22, TF30, TF49, TF58]; refine ⟨by first | (unfold InR; omega) | (simp only [InR, sm, lim] at *; omega), ?_⟩; (try simp -implicitDefEqProofs only [EV, forall_const, implies_true, Nat.reduceAdd, Nat.reduceEqDiff, Nat.reduceBEq, Nat.reduceLeDiff, Nat.reduceSub, Nat.reduceMul, Int.reduceEq, Int.reduceLT, Int.reduceLE, Int.reduceSub, Int.reduceAdd, Int.reduceToNat, reduceCtorEq, Int.reduceNeg, TF3, TF4, TF9, TF22, TF30, TF49, TF58]); refine hK _ _ ?_; clear hK K; try simp only [thenA, blockA, if_true])
      exact ⟨out', ⟨g3, g4, g5, g6⟩, (by simp [sle, vle, sget]), by simp [ble, bget, prC]⟩
    by_cases hin : d.name ∈ reachN p d.name
    · rw [if_pos hin] at hI
      refine AWp.condT (by simp [opnd, sget, hin]) ?_
      have hln : (addS out d.name).length ≤ j + 1 := by unfold addS; split <;> first | omega | (simp; omega)
      (refine AWp.lastR [0, 1, 2, 3, 5, 6, 8, 9, 10, 11, 17] [] (by decide +kernel) fun K hK => ?_; simp -implicitDefEqProofs only [EV, forall_const, implies_true, Nat.reduceAdd, Nat.reduceEqDiff, Nat.reduceBEq, Nat.reduceLeDiff, Nat.reduceSub, Nat.reduceMul, Int.reduceEq, Int.reduceLT, Int.reduceLE, Int.reduceSub, Int.reduceAdd, Int.reduceToNat, reduceCtorEq, Int.reduceNeg, TF3, TF4, TF9, TF22, TF30, TF49, TF58, kput_setD]; refine ⟨setD_keys h3, key9 _ hdn, ?_⟩; (try simp -implicitDefEqProofs only [EV, forall_const, implies_true, Nat.reduceAdd, Nat.reduceEqDiff, Nat.reduceBEq, Nat.reduceLeDiff, Nat.reduceSub, Nat.reduceMul, Int.reduceEq, Int.reduceLT, Int.reduceLE, Int.reduceSub, Int.reduceAdd, Int.reduceToNat, reduceCtorEq, Int.reduceNeg, TF3, TF4, TF9, TF22, TF30, TF49, TF58, kput_setD]); refine hK _ _ ?_; clear hK K; try simp only [thenA, blockA, if_true])
      refine nxt _ _ (addS out d.name) (by simp [sle, vle, sget]) (by simp [ble, bget, prC]) (addS_nodup _ h1) hln ?_ hI
      intro s hs'
      rcases mem_addS.1 hs' with rfl | hs'
      · exact hdn
      · exact h3 s hs'
    · rw [if_neg hin] at hI
      refine AWp.condF (by simp [opnd, sget, hin]) (AWp.skip ?_)
      simp only [thenA, blockA, if_true]
      exact nxt _ _ out (by simp [sle, vle, sget]) (by simp [ble, bget, prC]) h1 (by omega) h3 hI
end Go.Abs
