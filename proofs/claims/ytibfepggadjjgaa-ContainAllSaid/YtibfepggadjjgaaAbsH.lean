/- append, reslicing, function values. Own framework, part H. -/
import Derived.Test.YtibfepggadjjgaaAbsG
namespace Go.Abs
open Go

variable {P : Program} {o : Oper} {ρ : Rho} {bx : Boxes}

/-- the value of a slice of the call's own -/
def sval (i : BI) : Value := .slice (i.base.map fun b => ⟨b, i.off * i.sz, none⟩) i.len i.cap

/-- what a slice of cells holds, as 'append' reads it -/
structure Src (P : Program) (S : Nat → Prop) (w : World) (sz : Nat) (xs : List (List D)) (v : Value) (vs : List Value) : Prop where
  len : (Builtin.lenOf v).run P w = .ok xs.length w
  cells : ∀ n w', n = xs.length → (∀ b, (∃ p l c, v = .slice (some ⟨b, p, none⟩) l c) → w'.heap[b]? = w.heap[b]?) → (Builtin.firstCells sz n v).run P w' = .ok ⟨vs⟩ w'
  flat : Flat S w sz xs vs
  one : vs.all (·.oneCell') = true

theorem Src.nil {S : Nat → Prop} {w : World} {sz : Nat} {p : Option Addr} {c : Nat} : Src P S w sz [] (.slice p 0 c) [] where
  len := rfl
  cells n w' hn _ := by
    subst hn
    cases p with
    | none => rfl
    | some a => simp [Builtin.firstCells, loadCells, loadCellsFrom]
  flat := .nil
  one := rfl

/-- a list of cells read out of memory -/
theorem exists_cells {w : World} {b off n : Nat} (h : ∀ j, j < n → ∃ v, w.cell? ⟨b, off + j, none⟩ = some v) : ∃ vs : List Value, vs.length = n ∧ ∀ (j : Nat) (v : Value), vs[j]? = some v → w.cell? ⟨b, off + j, none⟩ = some v := by
  refine ⟨(List.range n).map fun j => (w.cell? ⟨b, off + j, none⟩).getD undef, by simp, ?_⟩
  intro j v hv
  simp only [List.getElem?_map, List.getElem?_range] at hv
  by_cases hj : j < n
  · obtain ⟨u, hu⟩ := h j hj
    simp [hj, hu] at hv
    rw [← hv]; exact hu
  · simp [hj] at hv

theorem run_firstCells' {w : World} {sz n b off len cap : Nat} {vs : List Value} (hl : vs.length = n * sz) (h : ∀ (j : Nat) (v : Value), vs[j]? = some v → w.cell? ⟨b, off + j, none⟩ = some v) :
    (Builtin.firstCells sz n (.slice (some ⟨b, off, none⟩) len cap)).run P w = .ok ⟨vs⟩ w := by
  have := run_loadCells_list (P := P) w ⟨b, off, none⟩ vs (fun j v hv => by rw [add_addr]; exact h j v hv)
  rw [hl] at this
  simpa [Builtin.firstCells] using this

theorem cell_of_heap {w w' : World} {b : Nat} (h : w'.heap[b]? = w.heap[b]?) (p : Nat) : w'.cell? ⟨b, p, none⟩ = w.cell? ⟨b, p, none⟩ := World.cell?_of_block (w := w) h

theorem Src.slice {S : Nat → Prop} {w : World} {sz : Nat} {xs : List (List D)} {v : Value} (h : RepC S w (.slice xs) v) (hsz : ∀ row, row ∈ xs → row.length = sz) : ∃ vs, Src P S w sz xs v vs := by
  cases h with
  | slice0 a c _ => exact ⟨[], .nil⟩
  | slice _ b off cap sz' hS h1 h2 h3 hone h4 h5 =>
    by_cases hx : xs = []
    · subst hx; exact ⟨[], .nil⟩
    · have hszz : sz' = sz := by
        cases xs with
        | nil => exact absurd rfl hx
        | cons r xs => rw [← h3 r (by simp), hsz r (by simp)]
      subst hszz
      have hex : ∀ j, j < xs.length * sz' → ∃ v, w.cell? ⟨b, off + j, none⟩ = some v := by
        intro j hj
        have hpos : 0 < sz' := by rcases Nat.eq_zero_or_pos sz' with h | h; · subst h; simp at hj
                                  · exact h
        obtain ⟨v, hv⟩ := h4 (j / sz') (j % sz') (Nat.div_lt_of_lt_mul (by rw [Nat.mul_comm]; exact hj)) (Nat.mod_lt _ hpos)
        have : j / sz' * sz' + j % sz' = j := by rw [Nat.mul_comm]; exact Nat.div_add_mod j sz'
        exact ⟨v, by rw [← this]; exact hv⟩
      obtain ⟨vs, hl, hvs⟩ := exists_cells hex
      have hflat : Flat S w sz' xs vs := ⟨hl, h3, hone, fun i j row d v hr hd hv => h5 i j row d v hr hd (hvs _ _ hv)⟩
      refine ⟨vs, ?_, ?_, hflat, ?_⟩
      · rfl
      · intro n w' hn hb
        subst hn
        exact run_firstCells' hl fun j v hv => by rw [cell_of_heap (hb b ⟨off, xs.length, cap, rfl⟩)]; exact hvs j v hv
      · rw [List.all_eq_true]
        intro v hv
        obtain ⟨j, hj⟩ := List.mem_iff_getElem?.1 hv
        have hlt := (List.getElem?_eq_some_iff.1 hj).1
        rw [hl] at hlt
        have hpos : 0 < sz' := by rcases Nat.eq_zero_or_pos sz' with h | h; · subst h; simp at hlt
                                  · exact h
        have hi : j / sz' < xs.length := Nat.div_lt_of_lt_mul (by rw [Nat.mul_comm]; exact hlt)
        have hrow := h3 _ (List.getElem_mem hi)
        have hm : j % sz' < xs[j / sz'].length := by rw [hrow]; exact Nat.mod_lt _ hpos
        have e : j / sz' * sz' + j % sz' = j := by rw [Nat.mul_comm]; exact Nat.div_add_mod j sz'
        exact (hflat.rep (j / sz') (j % sz') _ _ v (List.getElem?_eq_getElem hi) (List.getElem?_eq_getElem hm) (by rw [e]; exact hj)).one (hone _ (List.getElem_mem hi) _ (List.getElem_mem hm))

theorem Src.acc {S : Nat → Prop} {w : World} {β : Names} {i : BI} {sz : Nat} {xs : List (List D)} (h : BoxOK S w β i (.rows sz xs)) : ∃ vs, Src P S w sz xs (sval i) vs := by
  obtain ⟨g1, g2, g3, g4, g5, g6, g7⟩ := h
  subst g1
  cases hb : i.base with
  | none =>
    rw [hb] at g7
    simp only at g7
    have : xs = [] := by cases xs with
      | nil => rfl
      | cons r xs => simp at g2; omega
    subst this
    refine ⟨[], ?_⟩
    simp only [sval, hb, Option.map_none, ← g2]
    exact .nil
  | some b =>
    rw [hb] at g7
    obtain ⟨ty, vs, hh, hfit, hrep⟩ := g7
    have hfit' : i.off * i.sz + xs.length * i.sz ≤ vs.length := by
      have : (i.off + xs.length) * i.sz ≤ (i.off + i.cap) * i.sz := Nat.mul_le_mul_right _ (by omega)
      rw [Nat.add_mul] at this; omega
    have hl : ((vs.drop (i.off * i.sz)).take (xs.length * i.sz)).length = xs.length * i.sz := by simp; omega
    have hget : ∀ (j : Nat) (v : Value), ((vs.drop (i.off * i.sz)).take (xs.length * i.sz))[j]? = some v → vs[i.off * i.sz + j]? = some v := by
      intro j v hv
      simp only [List.getElem?_take, List.getElem?_drop] at hv
      split at hv
      · exact hv
      · simp at hv
    have hflat : Flat S w i.sz xs ((vs.drop (i.off * i.sz)).take (xs.length * i.sz)) := by
      refine ⟨hl, g5, g6, ?_⟩
      intro r j row d v hr hd hv
      have := hget _ _ hv
      exact hrep r j row d v hr hd (by rw [Nat.add_mul, Nat.add_assoc]; exact this)
    refine ⟨_, ?_, ?_, hflat, ?_⟩
    · simp [sval, hb, Builtin.lenOf, g2]
    · intro n w' hn hb'
      subst hn
      simp only [sval, hb, Option.map_some]
      refine run_firstCells' hl fun j v hv => ?_
      rw [cell_of_heap (hb' b ⟨i.off * i.sz, i.len, i.cap, by simp [sval, hb]⟩), cells_of_row hh]
      exact hget j v hv
    · rw [List.all_eq_true]
      intro v hv
      obtain ⟨j, hj⟩ := List.mem_iff_getElem?.1 hv
      have hlt := (List.getElem?_eq_some_iff.1 hj).1
      rw [hl] at hlt
      have hpos : 0 < i.sz := by rcases Nat.eq_zero_or_pos i.sz with h | h; · rw [h] at hlt; simp at hlt
                                 · exact h
      have hi : j / i.sz < xs.length := Nat.div_lt_of_lt_mul (by rw [Nat.mul_comm]; exact hlt)
      have hrow := g5 _ (List.getElem_mem hi)
      have hm : j % i.sz < xs[j / i.sz].length := by rw [hrow]; exact Nat.mod_lt _ hpos
      have e : j / i.sz * i.sz + j % i.sz = j := by rw [Nat.mul_comm]; exact Nat.div_add_mod j i.sz
      exact (hflat.rep (j / i.sz) (j % i.sz) _ _ v (List.getElem?_eq_getElem hi) (List.getElem?_eq_getElem hm) (by rw [e]; exact hj)).one (g6 _ (List.getElem_mem hi) _ (List.getElem_mem hm))

/-- facts on an element type -/
structure ElemT (P : Program) (T e sz bytes : Nat) : Prop where
  hT : selem P T = some e
  hsize : tsize P e = some sz
  hzero : (tzero P e).map List.length = some sz
  hbytes : (P.info? e).map (·.bytes) = some bytes
  hpos : bytes ≠ 0

def notInt (P : Program) (T : TypeId) : Bool :=
  match P.underlying T with
  | some (.slice _) => true
  | some .string => true
  | _ => false
theorem run_notInt {T : TypeId} (h : notInt P T = true) (w : World) : (∃ e, (underlying T).run P w = .ok (.slice e) w) ∨ (underlying T).run P w = .ok .string w := by
  unfold notInt at h
  cases hu : P.underlying T with
  | none => simp [hu] at h
  | some d =>
    cases d <;> simp [hu] at h
    · exact .inr (by simp [underlying, hu])
    · rename_i e; exact .inl ⟨e, by simp [underlying, hu]⟩

theorem zeroCells_size (zero : Array Value) (n : Nat) : (Builtin.zeroCells zero n).size = n * zero.size := by simp [Builtin.zeroCells]

/-- 'append' at a slice of the call's own: it stays, or it grows into a new block -/
theorem append_core {S : Nat → Prop} {w : World} {β : Names} {i : BI} {T e sz bytes U : Nat} {rs xs : List (List D)} {v : Value} {vs : List Value} (hE : ElemT P T e sz bytes) (hU : notInt P U = true) (hbox : BoxOK S w β i (.rows sz rs))
    (hnS : ∀ b, i.base = some b → ¬ S b ∧ b < w.heap.size) (hsrc : Src P S w sz xs v vs) (hroom : (rs.length + xs.length) * bytes ≤ lim) (ty : TypeId) :
    ∃ (i' : BI) (w' : World), (Builtin.append_ #[T, U] ty #[sval i, v]).run P w = .ok (sval i') w' ∧ w'.os = w.os ∧ w'.tape = w.tape ∧ w'.output = w.output ∧ w.heap.size ≤ w'.heap.size ∧
      (∀ b, b < w.heap.size → i.base ≠ some b → w'.heap[b]? = w.heap[b]?) ∧ (∀ b, i'.base = some b → i.base = some b ∨ (w.heap.size ≤ b ∧ b < w'.heap.size)) ∧
      (SExt S w S w' → ∀ β', BoxOK S w' β' i' (.rows sz (rs ++ xs))) := by
  have hbox' := hbox
  obtain ⟨g1, g2, g3, g4, g5, g6, g7⟩ := hbox
  have hdu := run_notInt hU w
  have hb1 : 1 ≤ bytes := by have := hE.hpos; omega
  have hlimn : rs.length + xs.length ≤ lim := Nat.le_trans (Nat.le_mul_of_pos_right _ hb1) hroom
  obtain ⟨os, hos⟩ := Src.acc (P := P) hbox'
  obtain ⟨zs, hz, hzl⟩ : ∃ zs, tzero P e = some zs ∧ zs.length = sz := by
    have := hE.hzero; cases hz : tzero P e with
    | none => simp [hz] at this
    | some zs => exact ⟨zs, rfl, by simpa [hz] using this⟩
  by_cases hc : i.len + xs.length ≤ i.cap
  · -- there is room
    cases hb : i.base with
    | none =>
      rw [hb] at g7; simp only at g7
      have hx : xs = [] := by cases xs with
        | nil => rfl
        | cons r xs => simp at hc; omega
      have hr : rs = [] := by cases rs with
        | nil => rfl
        | cons r xs => simp at g2; omega
      subst hx; subst hr
      simp only [List.length_nil, Nat.add_zero] at hc g2
      refine ⟨i, w, ?_, rfl, rfl, rfl, Nat.le_refl _, fun _ _ _ => rfl, fun b h => .inl (by rw [← hb]; exact h), fun _ _ => ?_⟩
      · have hcells := hsrc.cells 0 w rfl (fun _ _ => rfl)
        have hl0 := hsrc.len
        simp only [List.length_nil] at hl0
        rcases hdu with ⟨eu, hdu⟩ | hdu <;> simp [sval, hb, Builtin.append_, run_selem hE.hT, run_sizeOf' hE.hsize, hdu, hl0, ← g2, hcells]
      · refine ⟨g1, by simpa using g2, g3, by simp, by simp, by simp, ?_⟩
        rw [hb]; exact g7
    | some b =>
      rw [hb] at g7
      obtain ⟨tyb, bs, hh, hfit, hrep⟩ := g7
      subst g1
      have hl := hsrc.flat.len
      have hfit' : (i.off * i.sz + i.len * i.sz) + 0 + vs.length ≤ bs.length := by
        have : (i.off + (i.len + xs.length)) * i.sz ≤ (i.off + i.cap) * i.sz := Nat.mul_le_mul_right _ (by omega)
        simp only [Nat.add_mul] at this hfit; omega
      obtain ⟨w', hrun, q1, q2, q3, q4, q5, q6⟩ := run_storeCells' (P := P) vs bs b (i.off * i.sz + i.len * i.sz) 0 tyb w hh hfit' hsrc.one
      refine ⟨{ i with len := i.len + xs.length }, w', ?_, q3, q4, q5, by omega, ?_, fun b' hb' => .inl (by simpa [hb] using hb'), ?_⟩
      · have hcells := hsrc.cells xs.length w rfl (fun _ _ => rfl)
        simp only [Builtin.append_, sval, hb, Option.map_some]
        rcases hdu with ⟨eu, hdu⟩ | hdu <;> simp [run_selem hE.hT, run_sizeOf' hE.hsize, hdu, hsrc.len, hc, hcells, add_addr, hrun]
      · intro b' hb' hne
        exact q2 b' fun he => hne (by rw [he])
      · intro e0 β'
        refine boxOK_rows (b := b) (us := setAll os (rs.length * i.sz) [] ++ vs) (by simpa using hb) rfl (by simp [g2]) hc (by simpa using hlimn) q1 (by rw [setAll_length]; exact hfit) (by simp only [setAll]; exact (hos.flat.ext e0).append (hsrc.flat.ext e0)) ?_
        intro j u hu
        simp only [setAll] at hu
        show (setAll bs _ vs)[i.off * i.sz + j]? = _
        rw [setAll_get _ _ _ _ hfit']
        by_cases hj : j < os.length
        · rw [List.getElem?_append_left hj] at hu
          have hlo := hos.flat.len
          rw [if_neg (by rw [hlo, g2] at hj; omega)]
          have := hos.cells rs.length w rfl (fun _ _ => rfl)
          -- the old cells
          have hcell : ∀ (j : Nat) (u : Value), os[j]? = some u → bs[i.off * i.sz + j]? = some u := by
            intro j u hu
            have hjl := (List.getElem?_eq_some_iff.1 hu).1
            have hrun2 : (Builtin.firstCells i.sz rs.length (sval i)).run P w = .ok ⟨(bs.drop (i.off * i.sz)).take (rs.length * i.sz)⟩ w := by
              simp only [sval, hb, Option.map_some]
              refine run_firstCells' ?_ ?_
              · simp only [Nat.add_mul] at hfit
                have : i.len * i.sz ≤ i.cap * i.sz := Nat.mul_le_mul_right _ g3
                rw [← g2] at this
                simp; omega
              · intro j v hv
                rw [cells_of_row hh]
                simp only [List.getElem?_take, List.getElem?_drop] at hv
                split at hv
                · exact hv
                · simp at hv
            rw [this] at hrun2
            simp only [Result.ok.injEq, Array.mk.injEq, and_true] at hrun2
            rw [hrun2] at hu
            simp only [List.getElem?_take, List.getElem?_drop] at hu
            split at hu
            · exact hu
            · simp at hu
          exact hcell j u hu
        · rw [List.getElem?_append_right (by omega)] at hu
          have hlo := hos.flat.len
          rw [g2] at hlo
          have hlt := (List.getElem?_eq_some_iff.1 hu).1
          rw [if_pos (by omega)]
          rw [← hu]; congr 1; omega
  · -- it grows
    have hlt : i.cap < i.len + xs.length := by omega
    have hlen : i.len = rs.length := g2.symm
    have hfits := growslice_fits hlt (bytes := bytes) (by rw [hlen]; exact hroom)
    obtain ⟨inf, hinf, hinfb⟩ : ∃ inf, P.info? e = some inf ∧ inf.bytes = bytes := by
      have := hE.hbytes; cases hz : P.info? e with
      | none => simp [hz] at this
      | some inf => exact ⟨inf, rfl, by simpa [hz] using this⟩
    obtain ⟨z, hzrun, hzz⟩ := run_zeroValue' hz w.drew
    let newCap := (Question.appendCap (i.len + xs.length) i.cap e).cut (w.tape w.drawn (.appendCap (i.len + xs.length) i.cap e))
    have hge : i.len + xs.length ≤ newCap := by
      show _ ≤ (i.len + xs.length) + _ % _
      omega
    let rest := (Builtin.zeroCells z.cells (newCap - (i.len + xs.length))).toList
    let W : World := { w.drew with heap := w.drew.heap.push (.cells ⟨os ++ vs ++ rest⟩ e) }
    have hsize : z.cells.size = sz := by rw [hzz] at hzl; simpa using hzl
    refine ⟨{ base := some w.heap.size, off := 0, len := i.len + xs.length, cap := newCap, sz := sz }, W, ?_, rfl, rfl, rfl, ?_, ?_, ?_, ?_⟩
    · have h1 := hos.cells i.len w.drew hlen (fun _ _ => rfl)
      have h2 := hsrc.cells xs.length w.drew rfl (fun _ _ => rfl)
      have hnofit : ¬ (2 ^ 48 < Builtin.nextslicecap (i.len + xs.length) i.cap * inf.bytes) := by rw [hinfb]; omega
      have hb0 : inf.bytes ≠ 0 := by rw [hinfb]; exact hE.hpos
      have hchoose : (choose (.appendCap (i.len + xs.length) i.cap e)).run P w = .ok newCap w.drew := by simp [run_choose, Question.forced, newCap]
      obtain ⟨bse, hbse⟩ : ∃ bse, sval i = .slice bse i.len i.cap := ⟨_, rfl⟩
      have hsv : sval ({ base := some w.heap.size, off := 0, len := i.len + xs.length, cap := newCap, sz := sz } : BI) = .slice (some ⟨w.heap.size, 0, none⟩) (i.len + xs.length) newCap := by simp [sval]
      rw [hsv]
      rw [hbse] at h1 ⊢
      simp only [Builtin.append_]
      have hcat : (⟨os⟩ : Array Value) ++ ((⟨vs⟩ : Array Value) ++ Builtin.zeroCells z.cells (newCap - (i.len + xs.length))) = ⟨os ++ vs ++ rest⟩ := by apply Array.ext'; simp [rest]
      have hforced : (Question.appendCap (i.len + xs.length) i.cap e).forced = false := rfl
      rcases hdu with ⟨eu, hdu⟩ | hdu
      all_goals
        simp [-run_choose, run_selem hE.hT, run_sizeOf' hE.hsize, hdu, hsrc.len, hc, typeInfo, hinf, hb0, hnofit, hchoose, h1, h2, hzrun, newRow, hcat]
        rw [← List.append_assoc]; rfl
    · show w.heap.size ≤ (w.heap.push _).size
      simp
    · intro b hb _; exact heap_push_old w _ hb
    · intro b hb
      simp only [Option.some.injEq] at hb
      subst hb
      exact .inr ⟨Nat.le_refl _, by show w.heap.size < (w.heap.push _).size; simp⟩
    · intro e0 β'
      have hl1 := hos.flat.len
      have hl2 := hsrc.flat.len
      have hl3 : rest.length = (newCap - (i.len + xs.length)) * sz := by
        show (Builtin.zeroCells _ _).toList.length = _
        rw [Array.length_toList, zeroCells_size, hsize]
      refine boxOK_rows (b := w.heap.size) (vs := os ++ vs ++ rest) (ty := e) (us := os ++ vs) rfl rfl (by simp [g2]) hge (by simpa using hlimn) (by show (w.heap.push _)[w.heap.size]? = _; simp) ?_ ((hos.flat.ext e0).append (hsrc.flat.ext e0)) ?_
      · simp only [List.length_append, hl1, hl2, hl3, Nat.zero_add]
        rw [← Nat.add_mul, ← Nat.add_mul]
        exact Nat.mul_le_mul_right _ (by omega)
      · intro j u hu
        have := (List.getElem?_eq_some_iff.1 hu).1
        simp only [Nat.zero_mul, Nat.zero_add]
        rw [List.getElem?_append_left this]
        exact hu

end Go.Abs
