/- contain.Structs, Contains: on what sorting a set's keys gives; sets of names -/
import Derived.Test.YtibfepggadjjgaaF17
import Derived.Test.YtibfepggadjjgaaF18
namespace Go.Abs
set_option linter.unusedSimpArgs false
set_option linter.unusedVariables false
open Go Go.Proofs
set_option maxRecDepth 100000
set_option maxHeartbeats 1000000

/-- a set of names as a map -/
def setD (l : List Str) : List (D × D) := l.map fun s => (.str s, .bool true)
def addS (l : List Str) (s : Str) : List Str := if s ∈ l then l else l ++ [s]
def sortS (l : List Str) : List Str := l.mergeSort fun a b => decide (a ≤ b)
theorem kfind_setD (s : Str) : ∀ (l : List Str) (i : Nat), (s ∈ l → ∃ j, l[j]? = some s ∧ kfind (D.str s).lits (setD l) i = some (i + j, .bool true)) ∧ (s ∉ l → kfind (D.str s).lits (setD l) i = none)
  | [], i => by simp [setD, kfind]
  | x :: l, i => by
    have ih := kfind_setD s l (i + 1)
    have he : setD (x :: l) = (.str x, .bool true) :: setD l := rfl
    rw [he]
    simp only [kfind]
    by_cases hx : s = x
    · subst hx
      refine ⟨fun _ => ⟨0, rfl, by simp⟩, fun h => absurd (List.mem_cons_self ..) h⟩
    · have hne : ¬ (D.str s).lits = (D.str x).lits := by simp [D.lits, D.lit, hx]
      rw [if_neg hne]
      refine ⟨fun h => ?_, fun h => ih.2 fun h' => h (by simp [h'])⟩
      obtain ⟨j, h1, h2⟩ := ih.1 ((List.mem_cons.1 h).resolve_left hx)
      exact ⟨j + 1, by simpa using h1, by rw [h2]; congr 2; omega⟩
theorem kput_setD (s : Str) (l : List Str) : kput (.str s) (.bool true) (setD l) = setD (addS l s) := by
  unfold kput addS
  by_cases h : s ∈ l
  · obtain ⟨j, h1, h2⟩ := (kfind_setD s l 0).1 h
    rw [h2, if_pos h]
    have hj := (List.getElem?_eq_some_iff.1 h1).1
    have hjs : l[j] = s := (List.getElem?_eq_some_iff.1 h1).2
    simp only [Nat.zero_add]
    apply List.ext_getElem?
    intro k
    by_cases hk : k = j
    · subst hk
      rw [List.getElem?_set_self (by simpa [setD] using hj)]
      simp [setD, h1]
    · rw [List.getElem?_set_ne (by omega)]
  · rw [(kfind_setD s l 0).2 h, if_neg h]
    simp [setD]
theorem look_setD (s : Str) (l : List Str) : lookV (.str s) (setD l) (.d (.bool false)) = boolV (decide (s ∈ l)) := by
  unfold lookV
  by_cases h : s ∈ l
  · obtain ⟨j, h1, h2⟩ := (kfind_setD s l 0).1 h
    rw [h2]; simp [ofD, h]
  · rw [(kfind_setD s l 0).2 h]; simp [h]
theorem addS_nodup {l : List Str} (s : Str) (h : l.Nodup) : (addS l s).Nodup := by
  unfold addS
  split
  · exact h
  · rename_i hs
    rw [List.nodup_append]
    exact ⟨h, by simp, by rintro a ha b hb rfl; simp at hb; subst hb; exact hs ha⟩
theorem mem_addS {l : List Str} {s x : Str} : x ∈ addS l s ↔ x = s ∨ x ∈ l := by
  unfold addS
  split
  · constructor
    · exact .inr
    · rintro (rfl | h)
      · assumption
      · exact h
  · simp [or_comm]

mutual
def Ty.gatherN (p : Prog) : Ty → List Str → List Str
  | .mk n a _, m => if kindOf p n = 1 then Ty.gatherNL p a (addS m n) else m
def Ty.gatherNL (p : Prog) : List Ty → List Str → List Str
  | [], m => m
  | t :: ts, m => Ty.gatherNL p ts (t.gatherN p m)
end
mutual
theorem gather_set (p : Prog) : ∀ (t : Ty) (l : List Str), t.gather p (setD l) = setD (t.gatherN p l)
  | .mk n a _, l => by
    simp only [Ty.gather, Ty.gatherN]
    split
    · rw [kput_setD, gatherL_set p a]
    · rfl
theorem gatherL_set (p : Prog) : ∀ (ts : List Ty) (l : List Str), Ty.gatherL p ts (setD l) = setD (Ty.gatherNL p ts l)
  | [], l => rfl
  | t :: ts, l => by simp only [Ty.gatherL, Ty.gatherNL]; rw [gather_set p t, gatherL_set p ts]
end
def gatherFN (p : Prog) : List Param → List Str → List Str
  | [], m => m
  | f :: fs, m => gatherFN p fs (f.type.gatherN p m)
theorem gatherF_set (p : Prog) : ∀ (fs : List Param) (l : List Str), gatherF p fs (setD l) = setD (gatherFN p fs l)
  | [], l => rfl
  | f :: fs, l => by simp only [gatherF, gatherFN]; rw [gather_set p f.type, gatherF_set p fs]
/-- what a struct contains -/
def contN (p : Prog) (nm : Str) : List Str := gatherFN p (fieldsF p nm p.decls) []
theorem contM_set (p : Prog) (nm : Str) : contM p nm = setD (contN p nm) := gatherF_set p _ []
theorem Win.add {p : Prog} {l : List Str} {s : Str} (h : Win p l) (hs : kindOf p s = 1) : Win p (addS l s) :=
  ⟨addS_nodup s h.nodup, fun x hx => by
    rcases mem_addS.1 hx with rfl | hx
    · exact hs
    · exact h.isS x hx⟩
mutual
theorem Win.gather {p : Prog} : ∀ (t : Ty) {l : List Str}, Win p l → Win p (t.gatherN p l)
  | .mk n a q, l, h => by
    simp only [Ty.gatherN]
    split
    · exact Win.gatherL a (h.add (by assumption))
    · exact h
theorem Win.gatherL {p : Prog} : ∀ (ts : List Ty) {l : List Str}, Win p l → Win p (Ty.gatherNL p ts l)
  | [], _, h => h
  | t :: ts, _, h => Win.gatherL ts (Win.gather t h)
end
theorem Win.gatherF {p : Prog} : ∀ (fs : List Param) {l : List Str}, Win p l → Win p (gatherFN p fs l)
  | [], _, h => h
  | t :: ts, _, h => Win.gatherF ts (Win.gather t.type h)
theorem Win.contN (p : Prog) (nm : Str) : Win p (contN p nm) := Win.gatherF _ (Win.nil p)
theorem sortS_perm (l : List Str) : (sortS l).Perm l := List.mergeSort_perm ..
theorem mem_sortS {l : List Str} {x : Str} : x ∈ sortS l ↔ x ∈ l := (sortS_perm l).mem_iff
theorem sortS_len (l : List Str) : (sortS l).length = l.length := (sortS_perm l).length_eq

/-- what the sorting of a set's keys gives (XF20) -/
def SortedOK : Prop := ∀ l : List Str, l.Nodup → l.length ≤ sm → (∀ s, s ∈ l → s.length ≤ lim) → CallB Try.prog 24 [.d (.map (setD l))] [] (.acc 0) [(0, .rows 1 (strR (sortS l)))]
theorem Win.names {p : Prog} (h : p.Sm) {l : List Str} (hw : Win p l) : ∀ s, s ∈ l → s.length ≤ lim := by
  intro s hs
  obtain ⟨d, hd, rfl⟩ := List.mem_map.1 (kindOf_mem (hw.isS s hs))
  exact Nat.le_trans (h.decls.2 d hd).name (by decide)
theorem SortedOK.win {p : Prog} (hs : SortedOK) (h : p.Sm) {l : List Str} (hw : Win p l) : CallB Try.prog 24 [.d (.map (setD l))] [] (.acc 0) [(0, .rows 1 (strR (sortS l)))] :=
  hs l hw.nodup (Nat.le_trans hw.len h.decls.1) (hw.names h)

theorem ok_CContains (hs : SortedOK) (p : Prog) (h : p.Sm) (nm : Str) : CallOK Try.prog 11 [prV p, strV nm] (strsV (sortS (contN p nm))) := by
  have h1 := ok_contains p h nm
  rw [contM_set] at h1
  (refine CallOK.of_body Try.func11 rfl (by decide) (by rw [Try.ntmps11]; simp) ?_; rw [Try.ntmps11])
  (refine AWp.seqR [0, 1, 2, 4] [] (by decide +kernel) fun K hK => ?_; simp -implicitDefEqProofs only [EV, forall_const, implies_true, Nat.reduceAdd, Nat.reduceEqDiff, Nat.reduceBEq, Nat.reduceLeDiff, Nat.reduceSub, Nat.reduceMul, Int.reduceEq, Int.reduceLT, Int.reduceLE, Int.reduceSub, Int.reduceAdd, Int.reduceToNat, reduceCtorEq, Int.reduceNeg, TF3, TF4, TF9, TF30]; refine hK _ _ ?_; clear hK K)
  (refine AWp.seqR [0, 1, 2, 4] [] (by decide +kernel) fun K hK => ?_; simp -implicitDefEqProofs only [EV, forall_const, implies_true, Nat.reduceAdd, Nat.reduceEqDiff, Nat.reduceBEq, Nat.reduceLeDiff, Nat.reduceSub, Nat.reduceMul, Int.reduceEq, Int.reduceLT, Int.reduceLE, Int.reduceSub, Int.reduceAdd, Int.reduceToNat, reduceCtorEq, Int.reduceNeg, TF3, TF4, TF9, TF30]; refine ⟨_, .inl ⟨_, rfl, ok_New p h, rfl⟩, ?_⟩; (try simp -implicitDefEqProofs only [EV, forall_const, implies_true, Nat.reduceAdd, Nat.reduceEqDiff, Nat.reduceBEq, Nat.reduceLeDiff, Nat.reduceSub, Nat.reduceMul, Int.reduceEq, Int.reduceLT, Int.reduceLE, Int.reduceSub, Int.reduceAdd, Int.reduceToNat, reduceCtorEq, Int.reduceNeg, TF3, TF4, TF9, TF30]); refine ⟨_, .inl ⟨_, rfl, h1, rfl⟩, ?_⟩; (try simp -implicitDefEqProofs only [EV, forall_const, implies_true, Nat.reduceAdd, Nat.reduceEqDiff, Nat.reduceBEq, Nat.reduceLeDiff, Nat.reduceSub, Nat.reduceMul, Int.reduceEq, Int.reduceLT, Int.reduceLE, Int.reduceSub, Int.reduceAdd, Int.reduceToNat, reduceCtorEq, Int.reduceNeg, TF3, TF4, TF9, TF30]); refine ⟨_, .inl ⟨_, rfl, (hs.win h (Win.contN p nm)).pub, rfl⟩, ?_⟩; (try simp -implicitDefEqProofs only [EV, forall_const, implies_true, Nat.reduceAdd, Nat.reduceEqDiff, Nat.reduceBEq, Nat.reduceLeDiff, Nat.reduceSub, Nat.reduceMul, Int.reduceEq, Int.reduceLT, Int.reduceLE, Int.reduceSub, Int.reduceAdd, Int.reduceToNat, reduceCtorEq, Int.reduceNeg, TF3, TF4, TF9, TF30]); refine hK _ _ ?_; clear hK K)
  exact AWp.ret ⟨_, by rw [Try.results11]; rfl, rfl⟩
theorem ok_CStructs (hs : SortedOK) (p : Prog) (h : p.Sm) (t : Ty) (ht : t.Sm) : CallOK Try.prog 17 [prV p, tyV t] (strsV (sortS (t.gatherN p []))) := by
  have h1 := ok_gather p h t ht [] (by simp)
  rw [show ([] : List (D × D)) = setD [] from rfl, gather_set] at h1
  (refine CallOK.of_body Try.func17 rfl (by decide) (by rw [Try.ntmps17]; simp) ?_; rw [Try.ntmps17])
  (refine AWp.seqR [0, 1, 2, 3, 4, 5, 6] [] (by decide +kernel) fun K hK => ?_; simp -implicitDefEqProofs only [EV, forall_const, implies_true, Nat.reduceAdd, Nat.reduceEqDiff, Nat.reduceBEq, Nat.reduceLeDiff, Nat.reduceSub, Nat.reduceMul, Int.reduceEq, Int.reduceLT, Int.reduceLE, Int.reduceSub, Int.reduceAdd, Int.reduceToNat, reduceCtorEq, Int.reduceNeg, TF3, TF4, TF9, TF25, TF30, TF58]; refine hK _ _ ?_; clear hK K)
  (refine AWp.seqR [0, 1, 2, 3, 4, 5, 6] [] (by decide +kernel) fun K hK => ?_; simp -implicitDefEqProofs only [EV, forall_const, implies_true, Nat.reduceAdd, Nat.reduceEqDiff, Nat.reduceBEq, Nat.reduceLeDiff, Nat.reduceSub, Nat.reduceMul, Int.reduceEq, Int.reduceLT, Int.reduceLE, Int.reduceSub, Int.reduceAdd, Int.reduceToNat, reduceCtorEq, Int.reduceNeg, TF3, TF4, TF9, TF25, TF30, TF58]; refine hK _ _ ?_; clear hK K)
  (refine AWp.seqD [0, 1, 2, 3, 4, 5, 6] [] 4 mixed (by decide +kernel) (by decide +kernel) fun K hK => ?_; simp -implicitDefEqProofs only [EV, forall_const, implies_true, Nat.reduceAdd, Nat.reduceEqDiff, Nat.reduceBEq, Nat.reduceLeDiff, Nat.reduceSub, Nat.reduceMul, Int.reduceEq, Int.reduceLT, Int.reduceLE, Int.reduceSub, Int.reduceAdd, Int.reduceToNat, reduceCtorEq, Int.reduceNeg, TF3, TF4, TF9, TF25, TF30, TF58]; refine ⟨_, .inl ⟨_, rfl, ok_New p h, rfl⟩, ?_⟩; (try simp -implicitDefEqProofs only [EV, forall_const, implies_true, Nat.reduceAdd, Nat.reduceEqDiff, Nat.reduceBEq, Nat.reduceLeDiff, Nat.reduceSub, Nat.reduceMul, Int.reduceEq, Int.reduceLT, Int.reduceLE, Int.reduceSub, Int.reduceAdd, Int.reduceToNat, reduceCtorEq, Int.reduceNeg, TF3, TF4, TF9, TF25, TF30, TF58]); refine ⟨_, _, _, rfl, (by rfl), (by rfl), h1, (by rfl), ?_⟩; (try simp -implicitDefEqProofs only [EV, forall_const, implies_true, Nat.reduceAdd, Nat.reduceEqDiff, Nat.reduceBEq, Nat.reduceLeDiff, Nat.reduceSub, Nat.reduceMul, Int.reduceEq, Int.reduceLT, Int.reduceLE, Int.reduceSub, Int.reduceAdd, Int.reduceToNat, reduceCtorEq, Int.reduceNeg, TF3, TF4, TF9, TF25, TF30, TF58]); refine hK _ _ ?_; clear hK K)
  refine AWp.publishMap 6 rfl ?_
  (refine AWp.seqR [0, 1, 2, 3, 4, 5, 6] [] (by decide +kernel) fun K hK => ?_; simp -implicitDefEqProofs only [EV, forall_const, implies_true, Nat.reduceAdd, Nat.reduceEqDiff, Nat.reduceBEq, Nat.reduceLeDiff, Nat.reduceSub, Nat.reduceMul, Int.reduceEq, Int.reduceLT, Int.reduceLE, Int.reduceSub, Int.reduceAdd, Int.reduceToNat, reduceCtorEq, Int.reduceNeg, TF3, TF4, TF9, TF25, TF30, TF58, spurge]; refine ⟨_, .inl ⟨_, rfl, (hs.win h (Win.gather t (Win.nil p))).pub, rfl⟩, ?_⟩; (try simp -implicitDefEqProofs only [EV, forall_const, implies_true, Nat.reduceAdd, Nat.reduceEqDiff, Nat.reduceBEq, Nat.reduceLeDiff, Nat.reduceSub, Nat.reduceMul, Int.reduceEq, Int.reduceLT, Int.reduceLE, Int.reduceSub, Int.reduceAdd, Int.reduceToNat, reduceCtorEq, Int.reduceNeg, TF3, TF4, TF9, TF25, TF30, TF58, spurge]); refine hK _ _ ?_; clear hK K)
  exact AWp.ret ⟨_, by rw [Try.results17]; rfl, rfl⟩
end Go.Abs
