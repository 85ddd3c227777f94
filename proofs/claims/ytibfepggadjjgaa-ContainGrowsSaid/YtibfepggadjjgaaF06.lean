/- castingsref14.Structs, Contains -/
import Derived.Test.YtibfepggadjjgaaF05
namespace Go.Abs
set_option linter.unusedSimpArgs false
set_option linter.unusedVariables false
open Go Go.Proofs

mutual
def Ty.structs (p : Prog) : Ty → List Str → List Str
  | .mk n a _, acc => if kindOf p n = 1 then Ty.structsL p a (putS acc n) else acc
def Ty.structsL (p : Prog) : List Ty → List Str → List Str
  | [], acc => acc
  | t :: ts, acc => Ty.structsL p ts (t.structs p acc)
end
theorem Ty.structs_eq (p : Prog) (t : Ty) (acc : List Str) : t.structs p acc = if kindOf p t.name = 1 then Ty.structsL p t.args (putS acc t.name) else acc := by cases t; rfl

/-- structs of the program, each once -/
structure Win (p : Prog) (l : List Str) : Prop where
  nodup : l.Nodup
  isS : ∀ s, s ∈ l → kindOf p s = 1
theorem kindOf_mem {p : Prog} {s : Str} (h : kindOf p s = 1) : s ∈ p.decls.map Decl.name := by
  unfold kindOf at h
  split at h
  · rename_i d hd
    have h1 := List.mem_of_find?_eq_some hd
    have h2 := List.find?_some hd
    simp only [Decl.isT, Bool.and_eq_true, decide_eq_true_eq] at h2
    exact List.mem_map.2 ⟨d, h1, h2.2⟩
  · simp at h
theorem nodup_len {α : Type} [DecidableEq α] : ∀ {l m : List α}, l.Nodup → (∀ x, x ∈ l → x ∈ m) → l.length ≤ m.length
  | [], _, _, _ => by simp
  | x :: l, m, h, hs => by
    have hx := hs x (by simp)
    obtain ⟨h1, h2⟩ := List.nodup_cons.1 h
    have h3 : l.length ≤ (m.erase x).length := nodup_len h2 fun y hy => (List.mem_erase_of_ne (by rintro rfl; exact h1 hy)).2 (hs y (by simp [hy]))
    rw [List.length_erase_of_mem hx] at h3
    have := List.length_pos_of_mem hx
    simp only [List.length_cons]; omega
theorem Win.len {p : Prog} {l : List Str} (h : Win p l) : l.length ≤ p.decls.length := by
  have := nodup_len h.nodup fun s hs => kindOf_mem (h.isS s hs)
  simpa using this
theorem Win.nil (p : Prog) : Win p [] := ⟨by simp, by simp⟩
theorem mem_ins {s x : Str} : ∀ {l : List Str}, x ∈ ins s l ↔ x = s ∨ x ∈ l
  | [] => by simp [ins]
  | y :: ys => by
    simp only [ins]
    split
    · simp
    · simp only [List.mem_cons, mem_ins]
      constructor
      · rintro (h | h | h) <;> simp [h]
      · rintro (h | h | h) <;> simp [h]
theorem mem_putS {s x : Str} {l : List Str} : x ∈ putS l s ↔ x = s ∨ x ∈ l := by
  unfold putS
  split
  · constructor
    · exact .inr
    · rintro (rfl | h)
      · assumption
      · exact h
  · exact mem_ins
theorem ins_perm (s : Str) : ∀ l : List Str, (ins s l).Perm (s :: l)
  | [] => .refl _
  | y :: ys => by
    simp only [ins]
    split
    · exact .refl _
    · exact ((ins_perm s ys).cons y).trans (.swap s y ys)
theorem nodup_putS {s : Str} {l : List Str} (h : l.Nodup) : (putS l s).Nodup := by
  unfold putS
  split
  · exact h
  · rename_i hs
    rw [(ins_perm s l).nodup_iff]
    exact List.nodup_cons.2 ⟨hs, h⟩
theorem Win.put {p : Prog} {l : List Str} {s : Str} (h : Win p l) (hs : kindOf p s = 1) : Win p (putS l s) :=
  ⟨nodup_putS h.nodup, fun x hx => by
    rcases mem_putS.1 hx with rfl | hx
    · exact hs
    · exact h.isS x hx⟩
mutual
theorem Win.structs {p : Prog} : ∀ (t : Ty) {l : List Str}, Win p l → Win p (t.structs p l)
  | .mk n a q, l, h => by
    simp only [Ty.structs]
    split
    · exact Win.structsL a (h.put (by assumption))
    · exact h
theorem Win.structsL {p : Prog} : ∀ (ts : List Ty) {l : List Str}, Win p l → Win p (Ty.structsL p ts l)
  | [], _, h => h
  | t :: ts, _, h => Win.structsL ts (Win.structs t h)
end

set_option maxRecDepth 100000 in
set_option maxHeartbeats 1000000 in
theorem ok_Structs (p : Prog) (hp : p.decls.length ≤ 100000) : ∀ (t : Ty) (acc : List Str), Win p acc → CallOK Try.prog 18 [prV p, tyV t, strsV acc] (strsV (t.structs p acc)) := by
  intro t
  induction t using Ty.induct with
  | h t ih =>
  intro acc hacc
  refine CallB.bd (Enters.of Try.func18 rfl (by decide)) fun hbd => ?_
  have hok := ty_ok hbd.2.1
  have hl := hok.len
  have heqn := Ty.structs_eq p t acc
  (refine CallOK.of_body Try.func18 rfl (by decide) (by rw [Try.ntmps18]; simp) ?_; rw [Try.ntmps18])
  (refine AWp.seqR [0, 1, 2, 3, 4, 6, 7, 12, 22] [] (by decide +kernel) fun K hK => ?_; simp -implicitDefEqProofs only [EV, forall_const, implies_true, Nat.reduceAdd, Nat.reduceEqDiff, Nat.reduceBEq, Nat.reduceLeDiff, Nat.reduceSub, Nat.reduceMul, Int.reduceEq, Int.reduceLT, Int.reduceLE, Int.reduceSub, Int.reduceAdd, Int.reduceToNat, reduceCtorEq, Int.reduceNeg, TF3, TF4, TF9, TF23, TF25, TF30]; refine hK _ _ ?_; clear hK K)
  refine AWp.seqK fun K1 hK1 => ?_
  (refine AWp.seqR [0, 1, 2, 3, 4, 6, 7, 12, 22] [] (by decide +kernel) fun K hK => ?_; simp -implicitDefEqProofs only [EV, forall_const, implies_true, Nat.reduceAdd, Nat.reduceEqDiff, Nat.reduceBEq, Nat.reduceLeDiff, Nat.reduceSub, Nat.reduceMul, Int.reduceEq, Int.reduceLT, Int.reduceLE, Int.reduceSub, Int.reduceAdd, Int.reduceToNat, reduceCtorEq, Int.reduceNeg, TF3, TF4, TF9, TF23, TF25, TF30])
  refine ⟨intV (kindOf p t.name), .inl ⟨_, rfl, ok_Kind p t.name, rfl⟩, ?_⟩
  simp -implicitDefEqProofs only [EV, forall_const, implies_true, Nat.reduceAdd, Nat.reduceEqDiff, Nat.reduceBEq, Nat.reduceLeDiff, Nat.reduceSub, Nat.reduceMul, Int.reduceEq, Int.reduceLT, Int.reduceLE, Int.reduceSub, Int.reduceAdd, Int.reduceToNat, reduceCtorEq, Int.reduceNeg, TF3, TF4, TF9, TF23, TF25, TF30]
  (refine hK _ _ ?_; clear hK K)
  by_cases hk : kindOf p t.name = 1
  rotate_left
  · refine AWp.condT (by simp [opnd, sget, hk]) ?_
    (refine AWp.seqR [0, 1, 2, 3, 4, 6, 7, 12, 22] [] (by decide +kernel) fun K hK => ?_; simp -implicitDefEqProofs only [EV, forall_const, implies_true, Nat.reduceAdd, Nat.reduceEqDiff, Nat.reduceBEq, Nat.reduceLeDiff, Nat.reduceSub, Nat.reduceMul, Int.reduceEq, Int.reduceLT, Int.reduceLE, Int.reduceSub, Int.reduceAdd, Int.reduceToNat, reduceCtorEq, Int.reduceNeg, TF3, TF4, TF9, TF23, TF25, TF30]; refine hK _ _ ?_; clear hK K)
    rw [heqn, if_neg hk]
    exact AWp.ret ⟨_, by rw [Try.results18]; rfl, rfl⟩
  refine AWp.condF (by simp [opnd, sget, hk]) (AWp.skip (hK1 _ _ ?_))
  clear hK1 K1
  rw [if_pos hk] at heqn
  have hacc2 := hacc.put hk
  have hlen := hacc.len
  (refine AWp.seqR [0, 1, 2, 3, 4, 6, 7, 12, 22] [] (by decide +kernel) fun K hK => ?_; simp -implicitDefEqProofs only [EV, forall_const, implies_true, Nat.reduceAdd, Nat.reduceEqDiff, Nat.reduceBEq, Nat.reduceLeDiff, Nat.reduceSub, Nat.reduceMul, Int.reduceEq, Int.reduceLT, Int.reduceLE, Int.reduceSub, Int.reduceAdd, Int.reduceToNat, reduceCtorEq, Int.reduceNeg, TF3, TF4, TF9, TF23, TF25, TF30])
  refine ⟨strsV (putS acc t.name), .inl ⟨_, rfl, ok_Put acc t.name (by omega), rfl⟩, ?_⟩
  simp -implicitDefEqProofs only [EV, forall_const, implies_true, Nat.reduceAdd, Nat.reduceEqDiff, Nat.reduceBEq, Nat.reduceLeDiff, Nat.reduceSub, Nat.reduceMul, Int.reduceEq, Int.reduceLT, Int.reduceLE, Int.reduceSub, Int.reduceAdd, Int.reduceToNat, reduceCtorEq, Int.reduceNeg, TF3, TF4, TF9, TF23, TF25, TF30]
  (refine hK _ _ ?_; clear hK K)
  generalize putS acc t.name = acc2 at *
  refine AWp.seqK fun K1 hK1 => ?_
  have fin : ∀ sl bx, sle sl [(2, strsV (Ty.structsL p t.args acc2))] → K1 sl bx := by
    intro sl bx h1
    refine hK1 _ _ (AWp.weaken (bx' := []) h1 trivial ?_)
    clear hK1 K1
    (refine AWp.seqR [0, 1, 2, 3, 4, 6, 7, 12, 22] [] (by decide +kernel) fun K hK => ?_; simp -implicitDefEqProofs only [EV, forall_const, implies_true, Nat.reduceAdd, Nat.reduceEqDiff, Nat.reduceBEq, Nat.reduceLeDiff, Nat.reduceSub, Nat.reduceMul, Int.reduceEq, Int.reduceLT, Int.reduceLE, Int.reduceSub, Int.reduceAdd, Int.reduceToNat, reduceCtorEq, Int.reduceNeg, TF3, TF4, TF9, TF23, TF25, TF30]; refine hK _ _ ?_; clear hK K)
    rw [heqn]
    exact AWp.ret ⟨_, by rw [Try.results18]; rfl, rfl⟩
  (refine AWp.seqR [0, 1, 2, 3, 4, 6, 7, 12, 22] [] (by decide +kernel) fun K hK => ?_; simp -implicitDefEqProofs only [EV, forall_const, implies_true, Nat.reduceAdd, Nat.reduceEqDiff, Nat.reduceBEq, Nat.reduceLeDiff, Nat.reduceSub, Nat.reduceMul, Int.reduceEq, Int.reduceLT, Int.reduceLE, Int.reduceSub, Int.reduceAdd, Int.reduceToNat, reduceCtorEq, Int.reduceNeg, TF3, TF4, TF9, TF23, TF25, TF30]; refine hK _ _ ?_; clear hK K)
  refine AWp.block (AWp.loop (X := Nat × List Str) (fun x => [(2, strsV x.2), (7, intV x.1), (3, .box 3 0), (4, .box 4 0)]) (fun _ => [(3, .cells ((prC p).map .d)), (4, .cells ((tyC t).map .d))])
    (fun x => x.1 ≤ t.args.length ∧ Win p x.2 ∧ Ty.structsL p (t.args.drop x.1) x.2 = Ty.structsL p t.args acc2) (fun x => t.args.length - x.1) (0, acc2) ?_ ?_ ?_ ?_)
  · exact ⟨by simp, hacc2, rfl⟩
  · exact (by simp [sle, vle, sget])
  · exact (by simp [ble, bget, exC, tyC, foC, paC, siC, deC, prC])
  rintro ⟨j, r⟩ ⟨hj, hr, heq⟩
  simp only at hj hr heq
  by_cases hlt : (j : Int) < (t.args.length : Int)
  · have hlt' : j < t.args.length := by omega
    have hx : t.args[j]? = some t.args[j] := List.getElem?_eq_getElem hlt'
    have hmem : t.args[j] ∈ t.args := List.getElem_mem hlt'
    have hdrop : t.args.drop j = t.args[j] :: t.args.drop (j + 1) := List.drop_eq_getElem_cons hlt'
    generalize t.args[j] = x at *
    rw [hdrop, Ty.structsL] at heq
    refine AWp.seqK fun K2 hK2 => ?_
    (refine AWp.seqR [0, 1, 2, 3, 4, 6, 7, 12, 22] [] (by decide +kernel) fun K hK => ?_; simp -implicitDefEqProofs only [EV, forall_const, implies_true, Nat.reduceAdd, Nat.reduceEqDiff, Nat.reduceBEq, Nat.reduceLeDiff, Nat.reduceSub, Nat.reduceMul, Int.reduceEq, Int.reduceLT, Int.reduceLE, Int.reduceSub, Int.reduceAdd, Int.reduceToNat, reduceCtorEq, Int.reduceNeg, TF3, TF4, TF9, TF23, TF25, TF30, hlt]; refine hK _ _ ?_; clear hK K)
    refine AWp.condT rfl (AWp.skip (hK2 _ _ ?_))
    clear hK2 K2
    refine AWp.seqK fun K2 hK2 => ?_
    refine AWp.block ?_
    (refine AWp.lastD [0, 1, 2, 3, 4, 6, 7, 12, 22] [] 8 mixed (by decide +kernel) (by decide +kernel) fun K hK => ?_; simp -implicitDefEqProofs only [EV, forall_const, implies_true, Nat.reduceAdd, Nat.reduceEqDiff, Nat.reduceBEq, Nat.reduceLeDiff, Nat.reduceSub, Nat.reduceMul, Int.reduceEq, Int.reduceLT, Int.reduceLE, Int.reduceSub, Int.reduceAdd, Int.reduceToNat, reduceCtorEq, Int.reduceNeg, TF3, TF4, TF9, TF23, TF25, TF30, hlt])
    refine ⟨by omega, tyC x, tyR_get hx, rfl, ?_⟩
    simp -implicitDefEqProofs only [EV, forall_const, implies_true, Nat.reduceAdd, Nat.reduceEqDiff, Nat.reduceBEq, Nat.reduceLeDiff, Nat.reduceSub, Nat.reduceMul, Int.reduceEq, Int.reduceLT, Int.reduceLE, Int.reduceSub, Int.reduceAdd, Int.reduceToNat, reduceCtorEq, Int.reduceNeg, TF3, TF4, TF9, TF23, TF25, TF30, hlt]
    refine ⟨strsV (x.structs p r), .inl ⟨_, rfl, ih x hmem r hr, rfl⟩, ?_⟩
    simp -implicitDefEqProofs only [EV, forall_const, implies_true, Nat.reduceAdd, Nat.reduceEqDiff, Nat.reduceBEq, Nat.reduceLeDiff, Nat.reduceSub, Nat.reduceMul, Int.reduceEq, Int.reduceLT, Int.reduceLE, Int.reduceSub, Int.reduceAdd, Int.reduceToNat, reduceCtorEq, Int.reduceNeg, TF3, TF4, TF9, TF23, TF25, TF30, hlt]
    (refine hK _ _ ?_; clear hK K; try simp only [thenA, blockA, if_true])
    refine hK2 _ _ ?_
    clear hK2 K2
    (refine AWp.lastR [0, 1, 2, 3, 4, 6, 7, 12, 22] [] (by decide +kernel) fun K hK => ?_; simp -implicitDefEqProofs only [EV, forall_const, implies_true, Nat.reduceAdd, Nat.reduceEqDiff, Nat.reduceBEq, Nat.reduceLeDiff, Nat.reduceSub, Nat.reduceMul, Int.reduceEq, Int.reduceLT, Int.reduceLE, Int.reduceSub, Int.reduceAdd, Int.reduceToNat, reduceCtorEq, Int.reduceNeg, TF3, TF4, TF9, TF23, TF25, TF30])
    refine ⟨by unfold InR; unfold lim at *; omega, ?_⟩
    (refine hK _ _ ?_; clear hK K; try simp only [thenA, blockA, if_true])
    exact ⟨(j + 1, x.structs p r), ⟨by simp only; omega, Win.structs x hr, heq⟩, by simp only; omega, by simp [sle, vle, sget], (by simp [ble, bget, exC, tyC, foC, paC, siC, deC, prC])⟩
  · refine AWp.seqK fun K2 hK2 => ?_
    (refine AWp.seqR [0, 1, 2, 3, 4, 6, 7, 12, 22] [] (by decide +kernel) fun K hK => ?_; simp -implicitDefEqProofs only [EV, forall_const, implies_true, Nat.reduceAdd, Nat.reduceEqDiff, Nat.reduceBEq, Nat.reduceLeDiff, Nat.reduceSub, Nat.reduceMul, Int.reduceEq, Int.reduceLT, Int.reduceLE, Int.reduceSub, Int.reduceAdd, Int.reduceToNat, reduceCtorEq, Int.reduceNeg, TF3, TF4, TF9, TF23, TF25, TF30, hlt]; refine hK _ _ ?_; clear hK K)
    refine AWp.condF rfl (AWp.exit ?_)
    simp only [thenA, blockA, if_true]
    rw [List.drop_eq_nil_of_le (by omega), Ty.structsL] at heq
    exact fin _ _ (by simp [sle, vle, sget, heq])

def fieldsS (p : Prog) : List Param → List Str → List Str
  | [], acc => acc
  | f :: fs, acc => fieldsS p fs (f.type.structs p acc)
def contS (p : Prog) (nm : Str) (acc : List Str) : List Str := match p.decls.find? (fun d => d.isT nm) with
  | some d => if d.kind = 1 then fieldsS p d.fields acc else acc
  | none => acc
theorem Win.fields {p : Prog} : ∀ (fs : List Param) {l : List Str}, Win p l → Win p (fieldsS p fs l)
  | [], _, h => h
  | t :: ts, _, h => Win.fields ts (Win.structs t.type h)
theorem Win.cont {p : Prog} {l : List Str} (nm : Str) (h : Win p l) : Win p (contS p nm l) := by
  unfold contS
  split
  · split
    · exact h.fields _
    · exact h
  · exact h

set_option maxRecDepth 100000 in
set_option maxHeartbeats 1000000 in
theorem ok_Contains (p : Prog) (hp : p.decls.length ≤ 100000) (nm : Str) (acc : List Str) (hacc : Win p acc) : CallOK Try.prog 12 [prV p, strV nm, strsV acc] (strsV (contS p nm acc)) := by
  refine CallB.bd (Enters.of Try.func12 rfl (by decide)) fun hbd => ?_
  have hok := prog_ok hbd.1
  (refine CallOK.of_body Try.func12 rfl (by decide) (by rw [Try.ntmps12]; simp) ?_; rw [Try.ntmps12])
  (refine AWp.seqR [0, 1, 2, 3, 6, 7, 8, 22, 32] [] (by decide +kernel) fun K hK => ?_; simp -implicitDefEqProofs only [EV, forall_const, implies_true, Nat.reduceAdd, Nat.reduceEqDiff, Nat.reduceBEq, Nat.reduceLeDiff, Nat.reduceSub, Nat.reduceMul, Int.reduceEq, Int.reduceLT, Int.reduceLE, Int.reduceSub, Int.reduceAdd, Int.reduceToNat, reduceCtorEq, Int.reduceNeg, TF3, TF4, TF9, TF22, TF25, TF30, TF44, TF49, TF53]; refine hK _ _ ?_; clear hK K)
  (refine AWp.seqR [0, 1, 2, 3, 6, 7, 8, 22, 32] [] (by decide +kernel) fun K hK => ?_; simp -implicitDefEqProofs only [EV, forall_const, implies_true, Nat.reduceAdd, Nat.reduceEqDiff, Nat.reduceBEq, Nat.reduceLeDiff, Nat.reduceSub, Nat.reduceMul, Int.reduceEq, Int.reduceLT, Int.reduceLE, Int.reduceSub, Int.reduceAdd, Int.reduceToNat, reduceCtorEq, Int.reduceNeg, TF3, TF4, TF9, TF22, TF25, TF30, TF44, TF49, TF53])
  refine ⟨intV (findD nm p.decls 0), .inl ⟨_, rfl, ok_Find p nm, rfl⟩, ?_⟩
  simp -implicitDefEqProofs only [EV, forall_const, implies_true, Nat.reduceAdd, Nat.reduceEqDiff, Nat.reduceBEq, Nat.reduceLeDiff, Nat.reduceSub, Nat.reduceMul, Int.reduceEq, Int.reduceLT, Int.reduceLE, Int.reduceSub, Int.reduceAdd, Int.reduceToNat, reduceCtorEq, Int.reduceNeg, TF3, TF4, TF9, TF22, TF25, TF30, TF44, TF49, TF53]
  (refine hK _ _ ?_; clear hK K)
  refine AWp.seqK fun K1 hK1 => ?_
  rcases findD_find nm p.decls 0 with ⟨h1, h2⟩ | ⟨k, d, h1, h2, h3⟩
  · rw [h1]
    have hk : contS p nm acc = acc := by simp [contS, h2]
    (refine AWp.seqR [0, 1, 2, 3, 6, 7, 8, 22, 32] [] (by decide +kernel) fun K hK => ?_; simp -implicitDefEqProofs only [EV, forall_const, implies_true, Nat.reduceAdd, Nat.reduceEqDiff, Nat.reduceBEq, Nat.reduceLeDiff, Nat.reduceSub, Nat.reduceMul, Int.reduceEq, Int.reduceLT, Int.reduceLE, Int.reduceSub, Int.reduceAdd, Int.reduceToNat, reduceCtorEq, Int.reduceNeg, TF3, TF4, TF9, TF22, TF25, TF30, TF44, TF49, TF53]; refine hK _ _ ?_; clear hK K)
    refine AWp.condT rfl ?_
    (refine AWp.seqR [0, 1, 2, 3, 6, 7, 8, 22, 32] [] (by decide +kernel) fun K hK => ?_; simp -implicitDefEqProofs only [EV, forall_const, implies_true, Nat.reduceAdd, Nat.reduceEqDiff, Nat.reduceBEq, Nat.reduceLeDiff, Nat.reduceSub, Nat.reduceMul, Int.reduceEq, Int.reduceLT, Int.reduceLE, Int.reduceSub, Int.reduceAdd, Int.reduceToNat, reduceCtorEq, Int.reduceNeg, TF3, TF4, TF9, TF22, TF25, TF30, TF44, TF49, TF53]; refine hK _ _ ?_; clear hK K)
    rw [hk]
    exact AWp.ret ⟨_, by rw [Try.results12]; rfl, rfl⟩
  rw [h2]
  rw [Nat.zero_add]
  have hk : contS p nm acc = if d.kind = 1 then fieldsS p d.fields acc else acc := by simp [contS, h3]
  have hge : ¬ (k : Int) < 0 := by omega
  rcases Decidable.em (d.kind = 1) with hd | hd
  rotate_left
  · rw [if_neg hd] at hk
    (refine AWp.seqR [0, 1, 2, 3, 6, 7, 8, 22, 32] [] (by decide +kernel) fun K hK => ?_; simp -implicitDefEqProofs only [EV, forall_const, implies_true, Nat.reduceAdd, Nat.reduceEqDiff, Nat.reduceBEq, Nat.reduceLeDiff, Nat.reduceSub, Nat.reduceMul, Int.reduceEq, Int.reduceLT, Int.reduceLE, Int.reduceSub, Int.reduceAdd, Int.reduceToNat, reduceCtorEq, Int.reduceNeg, TF3, TF4, TF9, TF22, TF25, TF30, TF44, TF49, TF53, hge, hd])
    refine ⟨by omega, deC d, deR_get h1, rfl, ?_⟩
    simp -implicitDefEqProofs only [EV, forall_const, implies_true, Nat.reduceAdd, Nat.reduceEqDiff, Nat.reduceBEq, Nat.reduceLeDiff, Nat.reduceSub, Nat.reduceMul, Int.reduceEq, Int.reduceLT, Int.reduceLE, Int.reduceSub, Int.reduceAdd, Int.reduceToNat, reduceCtorEq, Int.reduceNeg, TF3, TF4, TF9, TF22, TF25, TF30, TF44, TF49, TF53, hge, hd]
    (refine hK _ _ ?_; clear hK K)
    refine AWp.condT rfl ?_
    (refine AWp.seqR [0, 1, 2, 3, 6, 7, 8, 22, 32] [] (by decide +kernel) fun K hK => ?_; simp -implicitDefEqProofs only [EV, forall_const, implies_true, Nat.reduceAdd, Nat.reduceEqDiff, Nat.reduceBEq, Nat.reduceLeDiff, Nat.reduceSub, Nat.reduceMul, Int.reduceEq, Int.reduceLT, Int.reduceLE, Int.reduceSub, Int.reduceAdd, Int.reduceToNat, reduceCtorEq, Int.reduceNeg, TF3, TF4, TF9, TF22, TF25, TF30, TF44, TF49, TF53]; refine hK _ _ ?_; clear hK K)
    rw [hk]
    exact AWp.ret ⟨_, by rw [Try.results12]; rfl, rfl⟩
  rw [if_pos hd] at hk
  have hdok := hok.decls.2 d (List.mem_iff_getElem?.2 ⟨k, h1⟩)
  have hfl := hdok.fields.1
  (refine AWp.seqR [0, 1, 2, 3, 6, 7, 8, 22, 32] [] (by decide +kernel) fun K hK => ?_; simp -implicitDefEqProofs only [EV, forall_const, implies_true, Nat.reduceAdd, Nat.reduceEqDiff, Nat.reduceBEq, Nat.reduceLeDiff, Nat.reduceSub, Nat.reduceMul, Int.reduceEq, Int.reduceLT, Int.reduceLE, Int.reduceSub, Int.reduceAdd, Int.reduceToNat, reduceCtorEq, Int.reduceNeg, TF3, TF4, TF9, TF22, TF25, TF30, TF44, TF49, TF53, hge, hd])
  refine ⟨by omega, deC d, deR_get h1, rfl, ?_⟩
  simp -implicitDefEqProofs only [EV, forall_const, implies_true, Nat.reduceAdd, Nat.reduceEqDiff, Nat.reduceBEq, Nat.reduceLeDiff, Nat.reduceSub, Nat.reduceMul, Int.reduceEq, Int.reduceLT, Int.reduceLE, Int.reduceSub, Int.reduceAdd, Int.reduceToNat, reduceCtorEq, Int.reduceNeg, TF3, TF4, TF9, TF22, TF25, TF30, TF44, TF49, TF53, hge, hd]
  (refine hK _ _ ?_; clear hK K)
  refine AWp.condF rfl (AWp.skip (hK1 _ _ ?_))
  clear hK1 K1
  refine AWp.seqK fun K1 hK1 => ?_
  have fin : ∀ sl bx, sle sl [(2, strsV (fieldsS p d.fields acc))] → K1 sl bx := by
    intro sl bx h1
    refine hK1 _ _ (AWp.weaken (bx' := []) h1 trivial ?_)
    clear hK1 K1
    (refine AWp.seqR [0, 1, 2, 3, 6, 7, 8, 22, 32] [] (by decide +kernel) fun K hK => ?_; simp -implicitDefEqProofs only [EV, forall_const, implies_true, Nat.reduceAdd, Nat.reduceEqDiff, Nat.reduceBEq, Nat.reduceLeDiff, Nat.reduceSub, Nat.reduceMul, Int.reduceEq, Int.reduceLT, Int.reduceLE, Int.reduceSub, Int.reduceAdd, Int.reduceToNat, reduceCtorEq, Int.reduceNeg, TF3, TF4, TF9, TF22, TF25, TF30, TF44, TF49, TF53]; refine hK _ _ ?_; clear hK K)
    rw [hk]
    exact AWp.ret ⟨_, by rw [Try.results12]; rfl, rfl⟩
  (refine AWp.seqR [0, 1, 2, 3, 6, 7, 8, 22, 32] [] (by decide +kernel) fun K hK => ?_; simp -implicitDefEqProofs only [EV, forall_const, implies_true, Nat.reduceAdd, Nat.reduceEqDiff, Nat.reduceBEq, Nat.reduceLeDiff, Nat.reduceSub, Nat.reduceMul, Int.reduceEq, Int.reduceLT, Int.reduceLE, Int.reduceSub, Int.reduceAdd, Int.reduceToNat, reduceCtorEq, Int.reduceNeg, TF3, TF4, TF9, TF22, TF25, TF30, TF44, TF49, TF53]; refine hK _ _ ?_; clear hK K)
  refine AWp.block (AWp.loop (X := Nat × List Str) (fun x => [(2, strsV x.2), (8, intV x.1), (7, intV k), (3, .box 3 0)]) (fun _ => [(3, .cells ((prC p).map .d))])
    (fun x => x.1 ≤ d.fields.length ∧ Win p x.2 ∧ fieldsS p (d.fields.drop x.1) x.2 = fieldsS p d.fields acc) (fun x => d.fields.length - x.1) (0, acc) ?_ ?_ ?_ ?_)
  · exact ⟨by simp, hacc, rfl⟩
  · exact (by simp [sle, vle, sget])
  · exact (by simp [ble, bget, exC, tyC, foC, paC, siC, deC, prC])
  rintro ⟨j, r⟩ ⟨hj, hr, heq⟩
  simp only at hj hr heq
  by_cases hlt : (j : Int) < (d.fields.length : Int)
  · have hlt' : j < d.fields.length := by omega
    have hx : d.fields[j]? = some d.fields[j] := List.getElem?_eq_getElem hlt'
    have hmem : d.fields[j] ∈ d.fields := List.getElem_mem hlt'
    have hdrop : d.fields.drop j = d.fields[j] :: d.fields.drop (j + 1) := List.drop_eq_getElem_cons hlt'
    generalize d.fields[j] = x at *
    rw [hdrop, fieldsS] at heq
    refine AWp.seqK fun K2 hK2 => ?_
    (refine AWp.seqR [0, 1, 2, 3, 6, 7, 8, 22, 32] [] (by decide +kernel) fun K hK => ?_; simp -implicitDefEqProofs only [EV, forall_const, implies_true, Nat.reduceAdd, Nat.reduceEqDiff, Nat.reduceBEq, Nat.reduceLeDiff, Nat.reduceSub, Nat.reduceMul, Int.reduceEq, Int.reduceLT, Int.reduceLE, Int.reduceSub, Int.reduceAdd, Int.reduceToNat, reduceCtorEq, Int.reduceNeg, TF3, TF4, TF9, TF22, TF25, TF30, TF44, TF49, TF53, hlt])
    refine ⟨by omega, deC d, deR_get h1, rfl, ?_⟩
    simp -implicitDefEqProofs only [EV, forall_const, implies_true, Nat.reduceAdd, Nat.reduceEqDiff, Nat.reduceBEq, Nat.reduceLeDiff, Nat.reduceSub, Nat.reduceMul, Int.reduceEq, Int.reduceLT, Int.reduceLE, Int.reduceSub, Int.reduceAdd, Int.reduceToNat, reduceCtorEq, Int.reduceNeg, TF3, TF4, TF9, TF22, TF25, TF30, TF44, TF49, TF53, hlt]
    (refine hK _ _ ?_; clear hK K)
    refine AWp.condT rfl (AWp.skip (hK2 _ _ ?_))
    clear hK2 K2
    refine AWp.seqK fun K2 hK2 => ?_
    refine AWp.block ?_
    (refine AWp.lastD [0, 1, 2, 3, 6, 7, 8, 22, 32] [] 13 mixed (by decide +kernel) (by decide +kernel) fun K hK => ?_; simp -implicitDefEqProofs only [EV, forall_const, implies_true, Nat.reduceAdd, Nat.reduceEqDiff, Nat.reduceBEq, Nat.reduceLeDiff, Nat.reduceSub, Nat.reduceMul, Int.reduceEq, Int.reduceLT, Int.reduceLE, Int.reduceSub, Int.reduceAdd, Int.reduceToNat, reduceCtorEq, Int.reduceNeg, TF3, TF4, TF9, TF22, TF25, TF30, TF44, TF49, TF53, hlt])
    refine ⟨by omega, deC d, deR_get h1, rfl, ?_⟩
    simp -implicitDefEqProofs only [EV, forall_const, implies_true, Nat.reduceAdd, Nat.reduceEqDiff, Nat.reduceBEq, Nat.reduceLeDiff, Nat.reduceSub, Nat.reduceMul, Int.reduceEq, Int.reduceLT, Int.reduceLE, Int.reduceSub, Int.reduceAdd, Int.reduceToNat, reduceCtorEq, Int.reduceNeg, TF3, TF4, TF9, TF22, TF25, TF30, TF44, TF49, TF53, hlt]
    refine ⟨by omega, paC x, paR_get hx, rfl, ?_⟩
    simp -implicitDefEqProofs only [EV, forall_const, implies_true, Nat.reduceAdd, Nat.reduceEqDiff, Nat.reduceBEq, Nat.reduceLeDiff, Nat.reduceSub, Nat.reduceMul, Int.reduceEq, Int.reduceLT, Int.reduceLE, Int.reduceSub, Int.reduceAdd, Int.reduceToNat, reduceCtorEq, Int.reduceNeg, TF3, TF4, TF9, TF22, TF25, TF30, TF44, TF49, TF53, hlt]
    refine ⟨strsV (x.type.structs p r), .inl ⟨_, rfl, ok_Structs p hp x.type r hr, rfl⟩, ?_⟩
    simp -implicitDefEqProofs only [EV, forall_const, implies_true, Nat.reduceAdd, Nat.reduceEqDiff, Nat.reduceBEq, Nat.reduceLeDiff, Nat.reduceSub, Nat.reduceMul, Int.reduceEq, Int.reduceLT, Int.reduceLE, Int.reduceSub, Int.reduceAdd, Int.reduceToNat, reduceCtorEq, Int.reduceNeg, TF3, TF4, TF9, TF22, TF25, TF30, TF44, TF49, TF53, hlt]
    (refine hK _ _ ?_; clear hK K; try simp only [thenA, blockA, if_true])
    refine hK2 _ _ ?_
    clear hK2 K2
    (refine AWp.lastR [0, 1, 2, 3, 6, 7, 8, 22, 32] [] (by decide +kernel) fun K hK => ?_; simp -implicitDefEqProofs only [EV, forall_const, implies_true, Nat.reduceAdd, Nat.reduceEqDiff, Nat.reduceBEq, Nat.reduceLeDiff, Nat.reduceSub, Nat.reduceMul, Int.reduceEq, Int.reduceLT, Int.reduceLE, Int.reduceSub, Int.reduceAdd, Int.reduceToNat, reduceCtorEq, Int.reduceNeg, TF3, TF4, TF9, TF22, TF25, TF30, TF44, TF49, TF53])
    refine ⟨by unfold InR; unfold lim at *; omega, ?_⟩
    (refine hK _ _ ?_; clear hK K; try simp only [thenA, blockA, if_true])
    exact ⟨(j + 1, x.type.structs p r), ⟨by simp only; omega, Win.structs x.type hr, heq⟩, by simp only; omega, by simp [sle, vle, sget], (by simp [ble, bget, exC, tyC, foC, paC, siC, deC, prC])⟩
  · refine AWp.seqK fun K2 hK2 => ?_
    (refine AWp.seqR [0, 1, 2, 3, 6, 7, 8, 22, 32] [] (by decide +kernel) fun K hK => ?_; simp -implicitDefEqProofs only [EV, forall_const, implies_true, Nat.reduceAdd, Nat.reduceEqDiff, Nat.reduceBEq, Nat.reduceLeDiff, Nat.reduceSub, Nat.reduceMul, Int.reduceEq, Int.reduceLT, Int.reduceLE, Int.reduceSub, Int.reduceAdd, Int.reduceToNat, reduceCtorEq, Int.reduceNeg, TF3, TF4, TF9, TF22, TF25, TF30, TF44, TF49, TF53, hlt])
    refine ⟨by omega, deC d, deR_get h1, rfl, ?_⟩
    simp -implicitDefEqProofs only [EV, forall_const, implies_true, Nat.reduceAdd, Nat.reduceEqDiff, Nat.reduceBEq, Nat.reduceLeDiff, Nat.reduceSub, Nat.reduceMul, Int.reduceEq, Int.reduceLT, Int.reduceLE, Int.reduceSub, Int.reduceAdd, Int.reduceToNat, reduceCtorEq, Int.reduceNeg, TF3, TF4, TF9, TF22, TF25, TF30, TF44, TF49, TF53, hlt]
    (refine hK _ _ ?_; clear hK K)
    refine AWp.condF rfl (AWp.exit ?_)
    simp only [thenA, blockA, if_true]
    rw [List.drop_eq_nil_of_le (by omega), fieldsS] at heq
    exact fin _ _ (by simp [sle, vle, sget, heq])
end Go.Abs
