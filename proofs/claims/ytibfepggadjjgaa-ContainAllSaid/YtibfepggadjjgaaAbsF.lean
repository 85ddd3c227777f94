/- Structs and slices built, slices that grow. Own framework, part F. -/
import Derived.Test.YtibfepggadjjgaaAbsE
namespace Go.Abs
open Go

variable {P : Program} {o : Oper} {ρ : Rho} {bx : Boxes}

/-- where the fields of a struct lie -/
def splaceL (P : Program) : List Field → Option (List (Nat × Nat))
  | [] => some []
  | f :: fs => match tsize P f.type with
    | some n => (splaceL P fs).map ((f.offset, n) :: ·)
    | none => none
def splaces (P : Program) (T : TypeId) : Option (List (Nat × Nat)) :=
  match P.underlying T with
  | some (.struct fs) => splaceL P fs.toList
  | _ => none

theorem run_places : ∀ (fs : List Field) (ps : List (Nat × Nat)), splaceL P fs = some ps → ∀ w : World, (fs.mapM (fun f => do pure (f.offset, ← sizeOf f.type) : Field → Sem (Nat × Nat))).run P w = .ok ps w
  | [], ps, h, w => by simp only [splaceL, Option.some.injEq] at h; subst h; rfl
  | f :: fs, ps, h, w => by
    simp only [splaceL] at h
    cases hn : tsize P f.type with
    | none => simp [hn] at h
    | some n =>
      simp only [hn, Option.map_eq_some_iff] at h
      obtain ⟨qs, hq, rfl⟩ := h
      have := run_places fs qs hq w
      simp only [List.mapM_cons, Sem.run_bind, run_sizeOf' hn, Result.andThen_ok, Sem.run_pure, this]

def fillSV (ps : List (Nat × Nat)) (cells : List SV) : List (Nat × List SV) → Option (List SV)
  | [] => some cells
  | (i, us) :: r => match ps[i]? with
    | none => none
    | some (off, size) => if us.length = size ∧ off + size ≤ cells.length then fillSV ps (setAll cells off us) r else none

theorem setAll_foldl : ∀ (us vs : List Value) (off : Nat) (n : Nat), ((us.zipIdx n).foldl (fun (cs : Array Value) (x : Value × Nat) => cs.setIfInBounds (off + x.2) x.1) ⟨vs⟩) = ⟨setAll vs (off + n) us⟩
  | [], vs, off, n => by simp [setAll]
  | u :: us, vs, off, n => by
    simp only [List.zipIdx_cons, List.foldl_cons, setAll]
    have := setAll_foldl us (vs.set (off + n) u) off (n + 1)
    rw [← Nat.add_assoc] at this
    rw [← this]
    congr 1
    simp

theorem fill_rep {S : Nat → Prop} {w : World} {β : Names} (place : Nat → Option (Nat × Nat)) (ps : List (Nat × Nat)) :
    ∀ (parts : List (Nat × List SV)) (vparts : List (Nat × Value)) (cells out : List SV) (vs : List Value), RepL S w β cells vs → (∀ (i : Nat) (q : Nat × Nat), ps[i]? = some q → place i = some q) →
      parts.length = vparts.length → (∀ (j : Nat) (p : Nat × List SV) (q : Nat × Value), parts[j]? = some p → vparts[j]? = some q → q.1 = p.1 ∧ RepL S w β p.2 q.2.cells.toList) →
      fillSV ps cells parts = some out → ∃ ws : List Value, Instr.fill place ⟨vs⟩ vparts = some ⟨ws⟩ ∧ RepL S w β out ws
  | [], vparts, cells, out, vs, h, hp, hl, hr, hf => by
    simp only [fillSV, Option.some.injEq] at hf; subst hf
    have : vparts = [] := by cases vparts <;> simp at hl; rfl
    subst this
    exact ⟨vs, rfl, h⟩
  | (i, us) :: parts, vparts, cells, out, vs, h, hp, hl, hr, hf => by
    cases vparts with
    | nil => simp at hl
    | cons q vparts =>
      simp only [List.length_cons, Nat.add_right_cancel_iff] at hl
      obtain ⟨h1, h2⟩ := hr 0 (i, us) q rfl rfl
      simp only [fillSV] at hf
      cases hq : ps[i]? with
      | none => simp [hq] at hf
      | some pr =>
        obtain ⟨off, size⟩ := pr
        simp only [hq] at hf
        split at hf
        · rename_i hc
          have hsz : q.2.cells.size = us.length := by have := h2.1; simpa using this
          have hlen := h.1
          simp only at h1 h2
          obtain ⟨ws, g1, g2⟩ := fill_rep place ps parts vparts _ out _ (h.setAll h2 (off := off) (by omega)) hp hl (fun j p q hp hq => hr (j + 1) p q hp hq) hf
          refine ⟨ws, ?_, g2⟩
          obtain ⟨qi, qv⟩ := q
          simp only at h1 h2 hsz
          subst h1
          simp only [Instr.fill, hp _ _ hq]
          rw [if_neg (by simp only [ne_eq, Bool.or_eq_true, decide_eq_true_eq, not_or]; simp; omega)]
          have := setAll_foldl qv.cells.toList vs off 0
          simp only [Nat.add_zero] at this
          have e : qv.cells.toList.zipIdx = qv.cells.zipIdx.toList := by simp
          rw [e, Array.foldl_toList] at this
          rw [← g1, ← this]
        · simp at hf

/-- the cells of the parts -/
def partsSV (ρ : Rho) : List (Nat × Operand) → Option (List (Nat × List SV))
  | [] => some []
  | (i, x) :: r => match content (ρ x), partsSV ρ r with
    | some c, some l => some ((i, c) :: l)
    | _, _ => none
theorem partsSV_rep {S : Nat → Prop} {w : World} {β : Names} {a : Act} : ∀ (parts : List (Nat × Operand)) (l : List (Nat × List SV)), (∀ p, p ∈ parts → RepV S w β (ρ p.2) (a.eval p.2)) → partsSV ρ parts = some l →
    l.length = (parts.map fun p => (p.1, a.eval p.2)).length ∧ (∀ (j : Nat) (p : Nat × List SV) (q : Nat × Value), l[j]? = some p → (parts.map fun p => (p.1, a.eval p.2))[j]? = some q → q.1 = p.1 ∧ RepL S w β p.2 q.2.cells.toList) ∧
    ∀ p, p ∈ l → p.2.all SV.one = true
  | [], l, _, h => by simp only [partsSV, Option.some.injEq] at h; subst h; simp
  | (i, x) :: r, l, ha, h => by
    simp only [partsSV] at h
    cases hc : content (ρ x) with
    | none => simp [hc] at h
    | some c =>
      cases hl : partsSV ρ r with
      | none => simp [hc, hl] at h
      | some m =>
        simp only [hc, hl, Option.some.injEq] at h; subst h
        obtain ⟨h1, h2, h3⟩ := partsSV_rep r m (fun p hp => ha p (by simp [hp])) hl
        obtain ⟨g1, g2⟩ := (ha (i, x) (by simp)).content hc
        refine ⟨by simpa using h1, ?_, ?_⟩
        · intro j p q hp hq
          cases j with
          | zero => simp at hp hq; subst hp; subst hq; exact ⟨rfl, g1⟩
          | succ j => exact h2 j p q (by simpa using hp) (by simpa using hq)
        · intro p hp
          simp only [List.mem_cons] at hp
          rcases hp with rfl | hp
          · exact g2
          · exact h3 p hp

theorem opT_build {T : TypeId} {parts : Array (Nat × Operand)} (ho : o.op = .build T parts) {zs : List SV} {ps : List (Nat × Nat)} {l : List (Nat × List SV)} {out : List SV}
    (hz : tzero P T = some zs) (hp : splaces P T = some ps) (hl : partsSV ρ parts.toList = some l) (hf : fillSV ps zs l = some out) (h1 : out.all SV.one = true) : OpT P o ρ bx (.agg out) bx [] :=
  .of_value fun _ S w β a _ ha => by
    obtain ⟨z, hrun, rfl⟩ := run_zeroValue' hz w
    unfold splaces at hp
    cases hu : P.underlying T with
    | none => simp [hu] at hp
    | some d =>
      rw [hu] at hp
      cases d <;> simp only [reduceCtorEq] at hp
      rename_i fs
      obtain ⟨g1, g2, _⟩ := partsSV_rep parts.toList l (fun p hp => ha p.2 (mo ho (by simp only [Op.operands, List.mem_toArray, List.mem_map]; exact ⟨p, hp, rfl⟩))) hl
      obtain ⟨ws, q1, q2⟩ := fill_rep (fun i => (ps.toArray)[i]?) ps l (parts.toList.map fun p => (p.1, a.eval p.2)) _ out _ (repL_const S w β z.cells.toList) (fun i q hq => by simpa using hq) g1 g2 hf
      refine ⟨.agg ⟨ws⟩, ?_, RepV.agg_of q2 h1⟩
      have hpl := run_places fs.toList ps hp w
      have hm : (fs.mapM (fun f => do pure (f.offset, ← sizeOf f.type) : Field → Sem (Nat × Nat))).run P w = .ok ps.toArray w := by
        rw [Array.mapM_eq_mapM_toList, Sem.run_map, hpl]
        simp
      simp only [execOp, ho, Instr.build, Sem.run_bind, hrun, Result.andThen_ok, underlying, run_program, hu, Sem.run_pure, hm]
      have hz' : z.cells = ⟨z.cells.toList⟩ := rfl
      have : Instr.fill (fun x => ps.toArray[x]?) z.cells (Array.map (fun x => (x.fst, a.eval x.snd)) parts).toList = some ⟨ws⟩ := by
        rw [hz', Array.toList_map]; exact q1
      simp only [this, Sem.run_pure, Result.andThen_ok]

end Go.Abs
