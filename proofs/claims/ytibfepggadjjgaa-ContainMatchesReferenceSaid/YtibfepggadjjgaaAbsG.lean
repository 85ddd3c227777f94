/- Slices built and appended to. Own framework, part G. -/
import Derived.Test.YtibfepggadjjgaaAbsF
namespace Go.Abs
open Go

variable {P : Program} {o : Oper} {ρ : Rho} {bx : Boxes}

/-- data of cells; nil and empty slices read as empty slices -/
def toDs : List SV → Option (List D)
  | [] => some []
  | .d x :: r => match toDs r with
    | some l => match x with
      | .nil => some (.slice [] :: l)
      | .emp => some (.slice [] :: l)
      | .agg _ => none
      | y => some (y :: l)
    | none => none
  | _ :: _ => none

theorem toDs_rep {S : Nat → Prop} {w : World} {β : Names} : ∀ (cs : List SV) (ds : List D) (vs : List Value), toDs cs = some ds → RepL S w β cs vs →
    ds.length = cs.length ∧ (∀ d, d ∈ ds → d.one = true) ∧ ∀ (j : Nat) (d : D) (v : Value), ds[j]? = some d → vs[j]? = some v → RepC S w d v
  | [], ds, vs, h, hr => by simp only [toDs, Option.some.injEq] at h; subst h; simp
  | c :: cs, ds, vs, h, hr => by
    cases c <;> simp only [toDs, reduceCtorEq] at h
    rename_i x
    cases hl : toDs cs with
    | none => simp [hl] at h
    | some l =>
      rw [hl] at h
      cases vs with
      | nil => have := hr.1; simp at this
      | cons v vs =>
        have hv : RepC S w x v := (hr.2 0 (.d x) v rfl rfl).inv_d
        obtain ⟨h1, h2, h3⟩ := toDs_rep cs l vs hl ⟨by have := hr.1; simpa using this, fun j c v hc hv => hr.2 (j + 1) c v (by simpa using hc) (by simpa using hv)⟩
        have key : ∃ y, ds = y :: l ∧ y.one = true ∧ RepC S w y v := by
          cases x <;> simp only [Option.some.injEq, reduceCtorEq] at h <;> first
            | exact ⟨_, h.symm, rfl, hv⟩
            | exact ⟨_, h.symm, rfl, hv.of_nil⟩
            | exact ⟨_, h.symm, rfl, hv.of_emp⟩
        obtain ⟨y, rfl, hy1, hy2⟩ := key
        refine ⟨by simp [h1], ?_, ?_⟩
        · intro d hd
          simp only [List.mem_cons] at hd
          rcases hd with rfl | hd
          · exact hy1
          · exact h2 d hd
        · intro j d u hd hu
          cases j with
          | zero => simp at hd hu; subst hd; subst hu; exact hy2
          | succ j => exact h3 j d u (by simpa using hd) (by simpa using hu)

/-- rows as cells in a list -/
structure Flat (S : Nat → Prop) (w : World) (sz : Nat) (rows : List (List D)) (vs : List Value) : Prop where
  len : vs.length = rows.length * sz
  row : ∀ row, row ∈ rows → row.length = sz
  one : ∀ row, row ∈ rows → ∀ d, d ∈ row → d.one = true
  rep : ∀ (i j : Nat) (row : List D) (d : D) (v : Value), rows[i]? = some row → row[j]? = some d → vs[i * sz + j]? = some v → RepC S w d v

theorem Flat.ext {S S' : Nat → Prop} {w w' : World} {sz : Nat} {rows : List (List D)} {vs : List Value} (h : Flat S w sz rows vs) (e : SExt S w S' w') : Flat S' w' sz rows vs :=
  ⟨h.len, h.row, h.one, fun i j row d v h1 h2 h3 => (h.rep i j row d v h1 h2 h3).ext e⟩

theorem Flat.nil {S : Nat → Prop} {w : World} {sz : Nat} : Flat S w sz [] [] := ⟨by simp, by simp, by simp, by simp⟩

theorem Flat.cons {S : Nat → Prop} {w : World} {sz : Nat} {row : List D} {rows : List (List D)} {us vs : List Value} (hl : row.length = sz) (hu : us.length = sz) (ho : ∀ d, d ∈ row → d.one = true)
    (hr : ∀ (j : Nat) (d : D) (v : Value), row[j]? = some d → us[j]? = some v → RepC S w d v) (h : Flat S w sz rows vs) : Flat S w sz (row :: rows) (us ++ vs) where
  len := by simp [hu, h.len, Nat.add_mul]; omega
  row r hr := by
    simp only [List.mem_cons] at hr
    rcases hr with rfl | hr
    · exact hl
    · exact h.row r hr
  one r hr := by
    simp only [List.mem_cons] at hr
    rcases hr with rfl | hr
    · exact ho
    · exact h.one r hr
  rep i j r d v h1 h2 h3 := by
    have hj : j < sz := by
      have e := (List.getElem?_eq_some_iff.1 h2).1
      cases i with
      | zero => simp at h1; subst h1; omega
      | succ i => have := h.row r (List.mem_of_getElem? (by simpa using h1)); omega
    cases i with
    | zero =>
      simp at h1; subst h1
      rw [Nat.zero_mul, Nat.zero_add, List.getElem?_append_left (by omega)] at h3
      exact hr j d v h2 h3
    | succ i =>
      rw [Nat.add_mul, Nat.one_mul, List.getElem?_append_right (by omega)] at h3
      exact h.rep i j r d v (by simpa using h1) h2 (by rw [← h3]; congr 1; omega)

theorem Flat.append {S : Nat → Prop} {w : World} {sz : Nat} {rows xs : List (List D)} {us vs : List Value} (h : Flat S w sz rows us) (k : Flat S w sz xs vs) : Flat S w sz (rows ++ xs) (us ++ vs) where
  len := by simp [h.len, k.len, Nat.add_mul]
  row r hr := by
    simp only [List.mem_append] at hr
    rcases hr with hr | hr
    · exact h.row r hr
    · exact k.row r hr
  one r hr := by
    simp only [List.mem_append] at hr
    rcases hr with hr | hr
    · exact h.one r hr
    · exact k.one r hr
  rep i j r d v h1 h2 h3 := by
    by_cases hi : i < rows.length
    · rw [List.getElem?_append_left hi] at h1
      have hj : j < sz := by have := (List.getElem?_eq_some_iff.1 h2).1; have := h.row r (List.mem_of_getElem? h1); omega
      have : (i + 1) * sz ≤ rows.length * sz := Nat.mul_le_mul_right _ hi
      rw [Nat.add_mul, Nat.one_mul] at this
      rw [List.getElem?_append_left (by rw [h.len]; omega)] at h3
      exact h.rep i j r d v h1 h2 h3
    · rw [List.getElem?_append_right (by omega)] at h1
      have : rows.length * sz ≤ i * sz := Nat.mul_le_mul_right _ (by omega)
      rw [List.getElem?_append_right (by rw [h.len]; omega)] at h3
      refine k.rep (i - rows.length) j r d v h1 h2 ?_
      rw [← h3, h.len]; congr 1
      rw [Nat.sub_mul]; omega

/-- the rows of a literal slice, its parts in order -/
def rowsOf (ρ : Rho) (sz : Nat) : Nat → List (Nat × Operand) → Option (List (List D))
  | _, [] => some []
  | n, (i, x) :: r => match content (ρ x) with
    | some c => match toDs c with
      | some row => if i = n ∧ row.length = sz then (rowsOf ρ sz (n + 1) r).map (row :: ·) else none
      | none => none
    | none => none

theorem rowsOf_fill {S : Nat → Prop} {w : World} {β : Names} {a : Act} (sz : Nat) : ∀ (parts : List (Nat × Operand)) (n : Nat) (rows : List (List D)) (pre rest : List Value), (∀ p, p ∈ parts → RepV S w β (ρ p.2) (a.eval p.2)) →
    rowsOf ρ sz n parts = some rows → pre.length = n * sz → rest.length = parts.length * sz →
    ∃ vs, Instr.fill (fun i => some (i * sz, sz)) ⟨pre ++ rest⟩ (parts.map fun p => (p.1, a.eval p.2)) = some ⟨pre ++ vs⟩ ∧ Flat S w sz rows vs ∧ rows.length = parts.length
  | [], n, rows, pre, rest, _, h, hp, hr => by
    simp only [rowsOf, Option.some.injEq] at h; subst h
    have : rest = [] := by cases rest <;> simp at hr; rfl
    subst this
    exact ⟨[], rfl, .nil, rfl⟩
  | (i, x) :: parts, n, rows, pre, rest, ha, h, hp, hr => by
    simp only [rowsOf] at h
    cases hc : content (ρ x) with
    | none => simp [hc] at h
    | some c =>
      cases hd : toDs c with
      | none => simp [hc, hd] at h
      | some row =>
        simp only [hc, hd] at h
        split at h
        · rename_i hin
          obtain ⟨rfl, hrl⟩ := hin
          simp only [Option.map_eq_some_iff] at h
          obtain ⟨rows', hrows, rfl⟩ := h
          obtain ⟨g1, g2⟩ := (ha (i, x) (by simp)).content hc
          obtain ⟨q1, q2, q3⟩ := toDs_rep c row _ hd g1
          have hsz : (a.eval x).cells.size = sz := by have := g1.1; simp at this; omega
          have hsz' : (a.eval x).cells.toList.length = sz := by simpa using hsz
          have hrest : sz ≤ rest.length := by rw [hr]; simp [Nat.add_mul]
          have hset : setAll (pre ++ rest) (i * sz) (a.eval x).cells.toList = (pre ++ (a.eval x).cells.toList) ++ rest.drop sz := by
            apply List.ext_getElem?
            intro j
            rw [setAll_get _ _ _ _ (by simp only [List.length_append]; omega)]
            by_cases h1 : i * sz ≤ j ∧ j < i * sz + (a.eval x).cells.toList.length
            · rw [if_pos h1, List.getElem?_append_left (by simp only [List.length_append]; omega), List.getElem?_append_right (by omega), hp]
            · rw [if_neg h1]
              by_cases h2 : j < i * sz
              · rw [List.getElem?_append_left (by omega), List.getElem?_append_left (by simp only [List.length_append]; omega), List.getElem?_append_left (by omega)]
              · rw [List.getElem?_append_right (by omega), List.getElem?_append_right (by simp only [List.length_append]; omega), List.getElem?_drop]
                congr 1
                simp only [List.length_append]; omega
          obtain ⟨vs, f1, f2, f3⟩ := rowsOf_fill sz parts (i + 1) rows' (pre ++ (a.eval x).cells.toList) (rest.drop sz) (fun p hp => ha p (by simp [hp])) hrows (by simp only [List.length_append, hsz', hp, Nat.add_mul]; omega)
            (by simp only [List.length_drop, hr, List.length_cons, Nat.add_mul]; omega)
          refine ⟨(a.eval x).cells.toList ++ vs, ?_, .cons hrl hsz' q2 q3 f2, by simp [f3]⟩
          simp only [List.map_cons, Instr.fill]
          rw [if_neg (by simp only [ne_eq, Bool.or_eq_true, decide_eq_true_eq, not_or]; simp; simp at hr; omega)]
          have hf := setAll_foldl (a.eval x).cells.toList (pre ++ rest) (i * sz) 0
          simp only [Nat.add_zero] at hf
          have e : (a.eval x).cells.toList.zipIdx = (a.eval x).cells.zipIdx.toList := by simp
          rw [e, Array.foldl_toList] at hf
          rw [hf, hset, f1, List.append_assoc]
        · simp at h

theorem run_selem {T e : Nat} (h : selem P T = some e) (w : World) : (underlying T).run P w = .ok (.slice e) w := by
  unfold selem at h
  cases hu : P.underlying T with
  | none => simp [hu] at h
  | some d =>
    rw [hu] at h
    cases d <;> simp only [reduceCtorEq, Option.some.injEq] at h
    subst h
    simp [underlying, hu]

theorem run_buildSlice {S : Nat → Prop} {w : World} {β : Names} {a : Act} {T e n sz : Nat} {parts : Array (Nat × Operand)} (ha : ∀ p, p ∈ parts.toList → RepV S w β (ρ p.2) (a.eval p.2)) {rows : List (List D)} {zs : List SV}
    (hT : selem P T = some e) (hs : tsize P e = some sz) (hz : tzero P e = some zs) (hzl : zs.length = sz) (hn : n * sz ≤ 16777216) (hp : parts.size = n) (hr : rowsOf ρ sz 0 parts.toList = some rows) :
    ∃ vs, (Instr.buildSlice T n (parts.map fun p => (p.1, a.eval p.2))).run P w = .ok (.slice (some ⟨w.heap.size, 0, none⟩) n n) { w with heap := w.heap.push (.cells ⟨vs⟩ e) } ∧ Flat S w sz rows vs ∧ rows.length = n := by
  obtain ⟨z, hrun, rfl⟩ := run_zeroValue' hz w
  simp only [List.length_map, Array.length_toList] at hzl
  obtain ⟨vs, f1, f2, f3⟩ := rowsOf_fill sz parts.toList 0 rows [] ((Array.range (n * sz)).map (fun j => (if n * sz = 0 then #[] else z.cells)[j % (if n * sz = 0 then #[] else z.cells).size]!)).toList ha hr (by simp) (by simp [hp])
  refine ⟨vs, ?_, f2, by rw [f3]; simpa using hp⟩
  simp only [List.nil_append] at f1
  simp only [Instr.buildSlice, Sem.run_bind, run_selem hT, Result.andThen_ok, run_sizeOf' hs]
  rw [if_neg (show ¬ n * sz > 2 ^ 24 by omega)]
  have hf : Instr.fill (fun i => some (i * sz, sz)) (Array.map (fun x => (if n * sz = 0 then #[] else z.cells)[x % (if n * sz = 0 then #[] else z.cells).size]!) (Array.range (n * sz))) (Array.map (fun p => (p.fst, a.eval p.snd)) parts).toList = some ⟨vs⟩ := by
    rw [Array.toList_map]; exact f1
  by_cases h0 : n * sz = 0
  · rw [if_pos h0]
    simp only [if_pos h0] at hf
    simp only [Sem.run_bind, Sem.run_pure, Result.andThen_ok, hf, newRow, run_newObj]
  · rw [if_neg h0]
    simp only [if_neg h0] at hf
    simp only [Sem.run_bind, Sem.run_pure, Result.andThen_ok, hrun, hf, newRow, run_newObj]

/-- published at once -/
theorem Flat.slice {S : Nat → Prop} {w : World} {sz : Nat} {rows : List (List D)} {vs : List Value} (h : Flat S w sz rows vs) {b : Nat} {ty : TypeId} {fr : Nat × Nat} {us : List Value} {off cap : Nat} (hb : S b)
    (hh : w.heap[b]? = some (.cells ⟨us⟩ ty fr)) (hv : ∀ (j : Nat) (v : Value), vs[j]? = some v → us[off + j]? = some v) (hl : rows.length ≤ lim) (hc : rows.length ≤ cap) :
    RepC S w (.slice rows) (.slice (some ⟨b, off, none⟩) rows.length cap) := by
  refine .slice rows b off cap sz hb hl hc h.row h.one ?_ ?_
  · intro i j hi hj
    have hlt : i * sz + j < vs.length := by
      rw [h.len]
      have : (i + 1) * sz ≤ rows.length * sz := Nat.mul_le_mul_right _ hi
      rw [Nat.add_mul, Nat.one_mul] at this; omega
    exact ⟨vs[i * sz + j], by rw [cells_of_row hh]; exact hv _ _ (List.getElem?_eq_getElem hlt)⟩
  · intro i j row d v hr hd hc'
    have hi := (List.getElem?_eq_some_iff.1 hr).1
    have hj : j < sz := by have := (List.getElem?_eq_some_iff.1 hd).1; have := h.row row (List.mem_of_getElem? hr); omega
    have hlt : i * sz + j < vs.length := by
      rw [h.len]
      have : (i + 1) * sz ≤ rows.length * sz := Nat.mul_le_mul_right _ hi
      rw [Nat.add_mul, Nat.one_mul] at this; omega
    rw [cells_of_row hh, hv _ _ (List.getElem?_eq_getElem hlt)] at hc'
    simp only [Option.some.injEq] at hc'
    exact h.rep i j row d v hr hd (by rw [← hc', List.getElem?_eq_getElem hlt])

theorem Inv.pubNew {C : Ctx} {S : Nat → Prop} {w : World} {β : Names} (h : Inv C S w β bx) (x : Obj) :
    Inv C (fun b => S b ∨ b = w.heap.size) { w with heap := w.heap.push x } β bx ∧ SExt S w (fun b => S b ∨ b = w.heap.size) { w with heap := w.heap.push x } := by
  refine h.grow (fun b hb => .inl hb) ?_ ?_ ?_ rfl rfl rfl (by simp)
  · intro b hb
    rcases hb with hb | hb
    · exact .inl hb
    · exact .inr (by omega)
  · intro b hb
    rcases hb with hb | hb
    · have := h.Slt b hb; simp; omega
    · simp [hb]
  · intro b hb; exact heap_push_old w x hb

theorem opT_buildSlicePub {T e n sz : Nat} {parts : Array (Nat × Operand)} (ho : o.op = .buildSlice T n parts) {rows : List (List D)} {zs : List SV}
    (hT : selem P T = some e) (hs : tsize P e = some sz) (hz : tzero P e = some zs) (hzl : zs.length = sz) (hn : n * sz ≤ 16777216) (hp : parts.size = n) (hr : rowsOf ρ sz 0 parts.toList = some rows) (hlim : n ≤ lim) :
    OpT P o ρ bx (.d (.slice rows)) bx [] := by
  intro C S w β a hi ha
  obtain ⟨vs, hrun, hf, hl⟩ := run_buildSlice (fun p hp => ha p.2 (mo ho (by simp only [Op.operands, List.mem_toArray, List.mem_map]; exact ⟨p, hp, rfl⟩))) hT hs hz hzl hn hp hr
  obtain ⟨h1, h2⟩ := hi.pubNew (.cells ⟨vs⟩ e)
  unfold Oper.wp
  have : (execOp a.eval o).run P w = .ok (.value (.slice (some ⟨w.heap.size, 0, none⟩) n n)) { w with heap := w.heap.push (.cells ⟨vs⟩ e) } := by
    simp only [execOp, ho, Sem.run_bind, hrun, Result.andThen_ok, Sem.run_pure]
  rw [this]
  refine ⟨_, _, β, rfl, h1, h2, ?_, fun _ _ => rfl⟩
  subst hl
  exact .d _ _ ((hf.ext h2).slice (.inr rfl) (heap_push_new w _) (fun j v hv => by simpa using hv) hlim (Nat.le_refl _))

/-- a box of rows, spelled with 'Flat' -/
theorem boxOK_rows {S : Nat → Prop} {w : World} {β : Names} {i : BI} {sz : Nat} {rows : List (List D)} {vs : List Value} {ty : TypeId} {b : Nat} (hb : i.base = some b) (hsz : i.sz = sz) (hlen : rows.length = i.len) (hcap : i.len ≤ i.cap)
    (hlim : rows.length ≤ lim) (hh : w.heap[b]? = some (.cells ⟨vs⟩ ty (0, 0))) (hfit : (i.off + i.cap) * sz ≤ vs.length) (us : List Value) (hf : Flat S w sz rows us) (hu : ∀ (j : Nat) (v : Value), us[j]? = some v → vs[i.off * sz + j]? = some v) :
    BoxOK S w β i (.rows sz rows) := by
  refine ⟨hsz, hlen, hcap, hlim, hf.row, hf.one, ?_⟩
  rw [hb]
  refine ⟨ty, vs, hh, hfit, ?_⟩
  intro r j row d v hr hd hv
  have hj : j < sz := by have := (List.getElem?_eq_some_iff.1 hd).1; have := hf.row row (List.mem_of_getElem? hr); omega
  have hri := (List.getElem?_eq_some_iff.1 hr).1
  have hlt : r * sz + j < us.length := by
    rw [hf.len]
    have : (r + 1) * sz ≤ rows.length * sz := Nat.mul_le_mul_right _ hri
    rw [Nat.add_mul, Nat.one_mul] at this; omega
  have := hu _ _ (List.getElem?_eq_getElem hlt)
  rw [Nat.add_mul, Nat.add_assoc, this] at hv
  simp only [Option.some.injEq] at hv
  exact hf.rep r j row d v hr hd (by rw [← hv, List.getElem?_eq_getElem hlt])

theorem opT_buildSliceOwn {T e n sz k : Nat} {parts : Array (Nat × Operand)} (hkf : k ≤ 999999) (ho : o.op = .buildSlice T n parts) {rows : List (List D)} {zs : List SV}
    (hT : selem P T = some e) (hs : tsize P e = some sz) (hz : tzero P e = some zs) (hzl : zs.length = sz) (hn : n * sz ≤ 16777216) (hp : parts.size = n) (hr : rowsOf ρ sz 0 parts.toList = some rows) (hlim : n ≤ lim) :
    OpT P o ρ bx (.acc k) ((k, .rows sz rows) :: bpurge k (berase k bx)) [k] := by
  intro C S w β a hi ha
  obtain ⟨vs, hrun, hf, hl⟩ := run_buildSlice (fun p hp => ha p.2 (mo ho (by simp only [Op.operands, List.mem_toArray, List.mem_map]; exact ⟨p, hp, rfl⟩))) hT hs hz hzl hn hp hr
  obtain ⟨h1, h2⟩ := hi.setNew (k := k) (w' := { w with heap := w.heap.push (.cells ⟨vs⟩ e) }) (c := .rows sz rows) { base := some w.heap.size, len := n, cap := n, sz := sz } hkf (by
      intro b hb; simp only [Option.some.injEq] at hb; subst hb
      exact ⟨fun hs => by have := hi.Slt _ hs; omega, by simp, .inl (Nat.le_refl _)⟩)
    (fun b' hb' _ => heap_push_old w _ hb') rfl rfl rfl (by simp)
    (fun e0 => boxOK_rows rfl rfl hl (Nat.le_refl _) (by omega) (heap_push_new w _) (by simp [hf.len, hl]) vs (hf.ext e0) (fun j v hv => by simpa using hv))
  unfold Oper.wp
  have : (execOp a.eval o).run P w = .ok (.value (.slice (some ⟨w.heap.size, 0, none⟩) n n)) { w with heap := w.heap.push (.cells ⟨vs⟩ e) } := by
    simp only [execOp, ho, Sem.run_bind, hrun, Result.andThen_ok, Sem.run_pure]
  rw [this]
  refine ⟨_, S, _, rfl, h1, h2, ?_, fun j hj => upd_ne (by simpa using hj)⟩
  have := RepV.acc (S := S) (w := { w with heap := w.heap.push (.cells ⟨vs⟩ e) }) (β := upd β k { base := some w.heap.size, len := n, cap := n, sz := sz }) k
  rw [upd_same] at this
  simpa using this

end Go.Abs
