/- The operations on abstract values: memory. Own framework, part D. -/
import Derived.Test.YtibfepggadjjgaaAbsC
namespace Go.Abs
open Go

variable {P : Program} {o : Oper} {ρ : Rho} {bx : Boxes}

/-! types -/
def tagg (P : Program) (T : TypeId) : Option Bool := (P.underlying T).map fun d => match d with | .struct _ | .array _ _ => true | _ => false
def tsize (P : Program) (T : TypeId) : Option Nat := (P.info? T).map (·.size)
def foff (P : Program) (T : TypeId) (f : Nat) : Option Nat :=
  match P.underlying T with
  | some (.struct fs) => match fs[f]? with
    | some fd => match P.info? fd.type with
      | some i => if i.size = 0 then none else some fd.offset
      | none => none
    | none => none
  | _ => none
def fsize (P : Program) (T : TypeId) (f : Nat) : Option Nat :=
  match P.underlying T with
  | some (.struct fs) => match fs[f]? with
    | some fd => tsize P fd.type
    | none => none
  | _ => none
def selem (P : Program) (T : TypeId) : Option TypeId :=
  match P.underlying T with
  | some (.slice e) => some e
  | _ => none

theorem run_isAgg {T : TypeId} {b : Bool} (h : tagg P T = some b) (w : World) : (isAgg T).run P w = .ok b w := by
  unfold tagg at h
  cases hu : P.underlying T with
  | none => simp [hu] at h
  | some d =>
    simp only [hu, Option.map_some, Option.some.injEq] at h
    subst h
    simp only [isAgg, underlying, Sem.run_bind, run_program, Result.andThen_ok, hu, Sem.run_pure]
    cases d <;> rfl
theorem run_sizeOf' {T : TypeId} {n : Nat} (h : tsize P T = some n) (w : World) : (sizeOf T).run P w = .ok n w := by
  unfold tsize at h
  cases hu : P.info? T with
  | none => simp [hu] at h
  | some d =>
    simp only [hu, Option.map_some, Option.some.injEq] at h
    subst h
    simp [sizeOf, typeInfo, hu]

theorem add_addr (b off n : Nat) : (⟨b, off, none⟩ : Addr).add n = ⟨b, off + n, none⟩ := by
  unfold Addr.add; split
  · subst_vars; rfl
  · rfl

theorem run_fieldAt {T f off b p : Nat} (h : foff P T f = some off) (w : World) : (Instr.fieldAt T (.pointer (some ⟨b, p, none⟩)) f).run P w = .ok (.pointer (some ⟨b, p + off, none⟩)) w := by
  unfold foff at h
  cases hu : P.underlying T with
  | none => simp [hu] at h
  | some d =>
    rw [hu] at h
    cases d <;> simp only [reduceCtorEq] at h
    rename_i fs
    cases hf : fs[f]? with
    | none => simp [hf] at h
    | some fd =>
      simp only [hf] at h
      cases hi : P.info? fd.type with
      | none => simp [hi] at h
      | some i =>
        simp only [hi] at h
        split at h
        · simp at h
        · rename_i hs
          simp only [Option.some.injEq] at h
          subst h
          simp [Instr.fieldAt, underlying, hu, hf, Instr.sureAddr, fieldPlace, sizeOf, typeInfo, hi, hs, add_addr]

/-! loads -/
theorem run_loadAt_one {T b p : Nat} {v : Value} {w : World} (hT : tagg P T = some false) (hc : w.cell? ⟨b, p, none⟩ = some v) :
    (Instr.loadAt T (.pointer (some ⟨b, p, none⟩))).run P w = .ok v w := by
  simp [Instr.loadAt, Instr.sureAddr, loadVar, run_isAgg hT, hc]
theorem run_loadAt_agg {T b p n : Nat} {vs : List Value} {w : World} (hT : tagg P T = some true) (hs : tsize P T = some n) (hl : vs.length = n)
    (hc : ∀ (j : Nat) (v : Value), vs[j]? = some v → w.cell? ⟨b, p + j, none⟩ = some v) :
    (Instr.loadAt T (.pointer (some ⟨b, p, none⟩))).run P w = .ok (.agg ⟨vs⟩) w := by
  have h := run_loadCells_list (P := P) w ⟨b, p, none⟩ vs (fun j v hv => by rw [add_addr]; exact hc j v hv)
  subst hl
  simp [Instr.loadAt, Instr.sureAddr, loadVar, run_isAgg hT, run_sizeOf' hs, h]

theorem cells_of_row {w : World} {b : Nat} {vs : List Value} {ty : TypeId} {fr : Nat × Nat} (h : w.heap[b]? = some (.cells ⟨vs⟩ ty fr)) (p : Nat) : w.cell? ⟨b, p, none⟩ = vs[p]? := by
  rw [cell_of_row w b p ⟨vs⟩ ty fr h]; simp

theorem RepV.inv_box {S : Nat → Prop} {w : World} {β : Names} {k off : Nat} {v : Value} (h : RepV S w β (.box k off) v) : ∃ b, (β k).base = some b ∧ v = .pointer (some ⟨b, off, none⟩) := by
  cases h with | box k off b h => exact ⟨b, h, rfl⟩

/-- a part of a list of cells -/
def part (cs : List SV) (off n : Nat) : List SV := (cs.drop off).take n
def partD (cs : List D) (off n : Nat) : List D := (cs.drop off).take n

theorem opT_loadBox {T : TypeId} {x : Operand} (ho : o.op = .load T x) {k off : Nat} {cs : List SV} {c : SV} (hx : ρ x = .box k off) (hb : (k, BoxC.cells cs) ∈ bx)
    (hT : tagg P T = some false) (hc : cs[off]? = some c) : OpT P o ρ bx c bx [] :=
  .of_value fun _ _ w β a hi ha => by
    have h1 := (ha x (mo ho (by simp [Op.operands, Call.operands]))); rw [hx] at h1
    obtain ⟨b, hbase, hv⟩ := h1.inv_box
    obtain ⟨b', ty, vs, hb', hh, hr⟩ := hi.box k _ hb
    rw [hbase] at hb'; cases hb'
    obtain ⟨v, hv', hrep⟩ := hr.get hc
    refine ⟨v, ?_, hrep⟩
    have hcell : w.cell? ⟨b, off, none⟩ = some v := by rw [cells_of_row hh]; exact hv'
    simp [execOp, ho, hv, run_loadAt_one hT hcell]

theorem RepV.agg_of {S : Nat → Prop} {w : World} {β : Names} {cs : List SV} {vs : List Value} (h : RepL S w β cs vs) (h1 : cs.all SV.one = true) : RepV S w β (.agg cs) (.agg ⟨vs⟩) :=
  .agg cs vs h.1 (fun c hc => List.all_eq_true.1 h1 c hc) h.2

theorem RepL.part {S : Nat → Prop} {w : World} {β : Names} {cs : List SV} {vs : List Value} (h : RepL S w β cs vs) (off n : Nat) : RepL S w β (part cs off n) ((vs.drop off).take n) := by
  refine ⟨by simp [Abs.part, h.1], ?_⟩
  intro j c v hc hv
  simp only [Abs.part, List.getElem?_take, List.getElem?_drop] at hc hv
  split at hc
  · rw [if_pos (by assumption)] at hv
    exact h.2 _ c v hc hv
  · simp at hc

theorem opT_loadBoxAgg {T : TypeId} {x : Operand} (ho : o.op = .load T x) {k off n : Nat} {cs : List SV} (hx : ρ x = .box k off) (hb : (k, BoxC.cells cs) ∈ bx)
    (hT : tagg P T = some true) (hs : tsize P T = some n) (hl : off + n ≤ cs.length) (h1 : (part cs off n).all SV.one = true) : OpT P o ρ bx (.agg (part cs off n)) bx [] :=
  .of_value fun _ _ w β a hi ha => by
    have hx1 := (ha x (mo ho (by simp [Op.operands, Call.operands]))); rw [hx] at hx1
    obtain ⟨b, hbase, hv⟩ := hx1.inv_box
    obtain ⟨b', ty, vs, hb', hh, hr⟩ := hi.box k _ hb
    rw [hbase] at hb'; cases hb'
    refine ⟨.agg ⟨(vs.drop off).take n⟩, ?_, RepV.agg_of (hr.part off n) h1⟩
    have := hr.1
    have hrun := run_loadAt_agg (P := P) (w := w) (b := b) (p := off) (vs := (vs.drop off).take n) hT hs (by simp; omega) (by
      intro j v hj
      rw [cells_of_row hh]
      simp only [List.getElem?_take, List.getElem?_drop] at hj
      split at hj
      · exact hj
      · simp at hj)
    simp [execOp, ho, hv, hrun]

/-- a pointer to data that stays -/
structure PtrD (S : Nat → Prop) (w : World) (cells : List D) (off : Nat) (v : Value) (b base : Nat) : Prop where
  v : v = .pointer (some ⟨b, base + off, none⟩)
  inS : S b
  one : ∀ d, d ∈ cells → d.one = true
  there : ∀ j, j < cells.length → ∃ v, w.cell? ⟨b, base + j, none⟩ = some v
  rep : ∀ (j : Nat) (d : D) (v : Value), cells[j]? = some d → w.cell? ⟨b, base + j, none⟩ = some v → RepC S w d v

theorem RepV.inv_dptr {S : Nat → Prop} {w : World} {β : Names} {cells : List D} {off : Nat} {v : Value} (h : RepV S w β (.dptr cells off) v) : ∃ b base, PtrD S w cells off v b base := by
  cases h with | dptr cells off b base h1 h2 h3 h4 => exact ⟨b, base, rfl, h1, h2, h3, h4⟩
theorem RepV.inv_ptr {S : Nat → Prop} {w : World} {β : Names} {cells : List D} {v : Value} (h : RepV S w β (.d (.ptr cells)) v) : ∃ b base, PtrD S w cells 0 v b base := by
  cases h with
  | d _ _ h => cases h with | ptr cells b h1 h2 h3 h4 => exact ⟨b, 0, by simp, h1, h2, by simpa using h3, by simpa using h4⟩
theorem PtrD.dptr {S : Nat → Prop} {w : World} {β : Names} {cells : List D} {off off' : Nat} {v : Value} {b base : Nat} (h : PtrD S w cells off v b base) : RepV S w β (.dptr cells off') (.pointer (some ⟨b, base + off', none⟩)) :=
    .dptr cells off' b base h.inS h.one h.there h.rep

/-- the operand is a pointer to data that stays: a 'dptr', or a whole block -/
inductive IsPtr : SV → List D → Nat → Prop where
  | dptr (cells : List D) (off : Nat) : IsPtr (.dptr cells off) cells off
  | ptr (cells : List D) : IsPtr (.d (.ptr cells)) cells 0
theorem RepV.inv_isPtr {S : Nat → Prop} {w : World} {β : Names} {x : SV} {cells : List D} {off : Nat} {v : Value} (h : RepV S w β x v) (hx : IsPtr x cells off) : ∃ b base, PtrD S w cells off v b base := by
  cases hx with
  | dptr => exact h.inv_dptr
  | ptr => exact h.inv_ptr

theorem opT_loadPtr {T : TypeId} {x : Operand} (ho : o.op = .load T x) {off : Nat} {cells : List D} {c : D} (hx : IsPtr (ρ x) cells off)
    (hT : tagg P T = some false) (hc : cells[off]? = some c) : OpT P o ρ bx (.d c) bx [] :=
  .of_value fun _ _ w β a hi ha => by
    obtain ⟨b, base, hp⟩ := ((ha x (mo ho (by simp [Op.operands, Call.operands])))).inv_isPtr hx
    obtain ⟨v, hv⟩ := hp.there off (List.getElem?_eq_some_iff.1 hc).1
    refine ⟨v, ?_, .d _ _ (hp.rep off c v hc hv)⟩
    simp [execOp, ho, hp.v, run_loadAt_one hT hv]

theorem opT_loadPtrAgg {T : TypeId} {x : Operand} (ho : o.op = .load T x) {off n : Nat} {cells : List D} (hx : IsPtr (ρ x) cells off)
    (hT : tagg P T = some true) (hs : tsize P T = some n) (hl : off + n ≤ cells.length) : OpT P o ρ bx (.agg ((partD cells off n).map SV.d)) bx [] :=
  .of_value fun _ S w β a hi ha => by
    obtain ⟨b, base, hp⟩ := ((ha x (mo ho (by simp [Op.operands, Call.operands])))).inv_isPtr hx
    have hex : ∃ vs : List Value, vs.length = n ∧ ∀ (j : Nat) (v : Value), vs[j]? = some v → w.cell? ⟨b, base + off + j, none⟩ = some v := by
      refine ⟨(List.range n).map fun j => (w.cell? ⟨b, base + off + j, none⟩).getD undef, by simp, ?_⟩
      intro j v hv
      simp only [List.getElem?_map, List.getElem?_range] at hv
      by_cases hj : j < n
      · obtain ⟨u, hu⟩ := hp.there (off + j) (by omega)
        rw [← Nat.add_assoc] at hu
        simp [hj, hu] at hv
        rw [← hv]; exact hu
      · simp [hj] at hv
    obtain ⟨vs, hvl, hvs⟩ := hex
    refine ⟨.agg ⟨vs⟩, by simp [execOp, ho, hp.v, run_loadAt_agg hT hs hvl hvs], ?_⟩
    refine repV_agg_of (.agg _ vs (by simp [partD, hvl]; omega) ?_ ?_)
    · intro d hd
      exact hp.one d (List.mem_of_mem_drop (List.mem_of_mem_take hd))
    · intro j d v hd hv
      simp only [partD, List.getElem?_take, List.getElem?_drop] at hd
      split at hd
      · exact hp.rep (off + j) d v hd (by rw [← Nat.add_assoc]; exact hvs j v hv)
      · simp at hd

/-! addresses of fields and elements -/
theorem opT_fieldBox {T f d : Nat} {x : Operand} (ho : o.op = .fieldAddr T x f) {k off : Nat} (hx : ρ x = .box k off) (hf : foff P T f = some d) : OpT P o ρ bx (.box k (off + d)) bx [] :=
  .of_value fun _ _ w β a hi ha => by
    have hx1 := (ha x (mo ho (by simp [Op.operands, Call.operands]))); rw [hx] at hx1
    obtain ⟨b, hbase, hv⟩ := hx1.inv_box
    exact ⟨.pointer (some ⟨b, off + d, none⟩), by simp [execOp, ho, hv, run_fieldAt hf], .box _ _ _ hbase⟩
theorem opT_fieldPtr {T f d : Nat} {x : Operand} (ho : o.op = .fieldAddr T x f) {cells : List D} {off : Nat} (hx : IsPtr (ρ x) cells off) (hf : foff P T f = some d) :
    OpT P o ρ bx (.dptr cells (off + d)) bx [] :=
  .of_value fun _ _ w β a hi ha => by
    obtain ⟨b, base, hp⟩ := ((ha x (mo ho (by simp [Op.operands, Call.operands])))).inv_isPtr hx
    exact ⟨.pointer (some ⟨b, base + (off + d), none⟩), by simp [execOp, ho, hp.v, run_fieldAt hf, Nat.add_assoc], hp.dptr⟩
theorem opT_fieldAptr {T f d : Nat} {x : Operand} (ho : o.op = .fieldAddr T x f) {k i off : Nat} (hx : ρ x = .aptr k i off) (hf : foff P T f = some d) : OpT P o ρ bx (.aptr k i (off + d)) bx [] :=
  .of_value fun _ _ w β a hi ha => by
    have hx1 := (ha x (mo ho (by simp [Op.operands, Call.operands]))); rw [hx] at hx1
    generalize hv : a.eval x = v at hx1
    cases hx1 with
    | aptr k i off b hbase =>
      exact ⟨.pointer (some ⟨b, ((β k).off + i) * (β k).sz + (off + d), none⟩), by simp [execOp, ho, hv, run_fieldAt hf, Nat.add_assoc], .aptr _ _ _ _ hbase⟩

theorem run_indexAt {T e n : Nat} {b p len cap : Nat} {i : Int} {k : IntKind} (hT : selem P T = some e) (hs : tsize P e = some n) (h0 : 0 ≤ i) (h1 : i < len) (w : World) :
    (Instr.indexAt T (.slice (some ⟨b, p, none⟩) len cap) (.int k i)).run P w = .ok (.pointer (some ⟨b, p + i.toNat * n, none⟩)) w := by
  unfold selem at hT
  cases hu : P.underlying T with
  | none => simp [hu] at hT
  | some d =>
    rw [hu] at hT
    cases d <;> simp only [reduceCtorEq, Option.some.injEq] at hT
    subst hT
    simp [Instr.indexAt, asIntOf, underlying, hu, h0, h1, run_sizeOf' hs, add_addr]

theorem opT_indexSlice {T e n : Nat} {x y : Operand} (ho : o.op = .indexAddr T x y) {rows : List (List D)} {k : IntKind} {i : Int} {row : List D} (hx : ρ x = .d (.slice rows)) (hy : ρ y = .d (.int k i))
    (hT : selem P T = some e) (hs : tsize P e = some n) (h0 : 0 ≤ i) (hr : rows[i.toNat]? = some row) (hn : row.length = n) : OpT P o ρ bx (.dptr row 0) bx [] :=
  .of_value fun _ S w β a hi ha => by
    have hx1 := (ha x (mo ho (by simp [Op.operands, Call.operands]))); rw [hx] at hx1
    have hy1 := (ha y (mo ho (by simp [Op.operands, Call.operands]))); rw [hy] at hy1; have hy1 := hy1.inv_int
    have hilt := (List.getElem?_eq_some_iff.1 hr).1
    have hmem := List.mem_of_getElem? hr
    generalize hv : a.eval x = v at hx1
    cases hx1 with
    | d _ _ hx1 =>
      cases hx1 with
      | slice0 => simp at hr
      | slice _ b off cap sz hS h1 h2 h3 hone h4 h5 =>
        have hsz : sz = n := by rw [← hn]; exact (h3 row hmem).symm
        subst hsz
        refine ⟨.pointer (some ⟨b, (off + i.toNat * sz) + 0, none⟩), ?_, .dptr row 0 b (off + i.toNat * sz) hS (hone row hmem) ?_ ?_⟩
        · simp [execOp, ho, hv, hy1, run_indexAt hT hs h0 (show i < (rows.length : Int) by omega)]
        · intro j hj
          obtain ⟨v, hv⟩ := h4 i.toNat j hilt (by omega)
          exact ⟨v, by rw [Nat.add_assoc]; exact hv⟩
        · intro j d v hd hv
          rw [Nat.add_assoc] at hv
          exact h5 i.toNat j row d v hr hd hv

theorem opT_indexAcc {T e n : Nat} {x y : Operand} (ho : o.op = .indexAddr T x y) {q : Nat} {sz : Nat} {rows : List (List D)} {k : IntKind} {i : Int} (hx : ρ x = .acc q) (hb : (q, BoxC.rows sz rows) ∈ bx)
    (hy : ρ y = .d (.int k i)) (hT : selem P T = some e) (hs : tsize P e = some n) (hsz : sz = n) (h0 : 0 ≤ i) (h1 : i.toNat < rows.length) : OpT P o ρ bx (.aptr q i.toNat 0) bx [] :=
  .of_value fun _ S w β a hi ha => by
    have hx1 := (ha x (mo ho (by simp [Op.operands, Call.operands]))); rw [hx] at hx1
    have hy1 := (ha y (mo ho (by simp [Op.operands, Call.operands]))); rw [hy] at hy1; have hy1 := hy1.inv_int
    generalize hv : a.eval x = v at hx1
    obtain ⟨g1, g2, g3, g4, g5, g6, g7⟩ := hi.box q _ hb
    cases hx1 with
    | acc q =>
      cases hbase : (β q).base with
      | none => rw [hbase] at g7; simp only at g7; omega
      | some b =>
        subst hsz
        refine ⟨.pointer (some ⟨b, ((β q).off + i.toNat) * (β q).sz + 0, none⟩), ?_, .aptr q i.toNat 0 b hbase⟩
        rw [hbase] at hv
        simp only [Option.map_some] at hv
        simp [execOp, ho, hv, hy1, run_indexAt hT hs h0 (show i < (((β q).len : Nat) : Int) by omega), g1, Nat.add_mul]

/-- the byte of a string -/
theorem opT_indexStr {T : Nat} {x y : Operand} (ho : o.op = .index T x y) {s : Str} {k : IntKind} {i : Int} {c : UInt8} (hx : ρ x = .d (.str s)) (hy : ρ y = .d (.int k i))
    (hT : P.underlying T = some .string) (h0 : 0 ≤ i) (hr : s[i.toNat]? = some c) : OpT P o ρ bx (.d (.int .u8 c.toNat)) bx [] :=
  .of_value fun _ S w β a hi ha => by
    have hx1 := (ha x (mo ho (by simp [Op.operands, Call.operands]))); rw [hx] at hx1; have hx1 := hx1.inv_str.1
    have hy1 := (ha y (mo ho (by simp [Op.operands, Call.operands]))); rw [hy] at hy1; have hy1 := hy1.inv_int
    refine ⟨.int .u8 c.toNat, ?_, .int _ _⟩
    have hb : (mkStr s)[i.toNat]? = some c := by
      obtain ⟨h1, h2⟩ := List.getElem?_eq_some_iff.1 hr
      have h1' : i.toNat < (mkStr s).size := h1
      rw [getElem?_pos (mkStr s) i.toNat h1']
      congr 1
    simp [execOp, ho, hx1, hy1, Instr.index, asIntOf, underlying, hT, h0, hb]

/-- a field of a struct value -/
theorem opT_fieldAgg {T f d n : Nat} {x : Operand} (ho : o.op = .field T x f) {cs : List SV} {ft : TypeId} (hx : ρ x = .agg cs) {fs : Array Field} {fd : Field}
    (hT : P.underlying T = some (.struct fs)) (hf : fs[f]? = some fd) (hd : fd.offset = d) (hft : fd.type = ft) (ha : tagg P ft = some true) (hs : tsize P ft = some n) : OpT P o ρ bx (.agg (part cs d n)) bx [] :=
  .of_value fun _ S w β a hi h => by
    have hx1 := h x (mo ho (by simp [Op.operands])); rw [hx] at hx1
    generalize hv : a.eval x = v at hx1
    cases hx1 with
    | agg _ vs hl h1 h2 =>
      subst hd hft
      refine ⟨.agg ⟨(vs.drop fd.offset).take n⟩, ?_, RepV.agg_of (RepL.part ⟨hl, h2⟩ _ _) ?_⟩
      · have he : (Array.mk vs).extract fd.offset (fd.offset + n) = ⟨(vs.drop fd.offset).take n⟩ := by
          apply Array.ext'; simp
        simp [execOp, ho, hv, Instr.field, underlying, hT, hf, Go.part, run_isAgg ha, run_sizeOf' hs, asAgg, he]
      · rw [List.all_eq_true]; intro c hc
        exact h1 c (List.mem_of_mem_drop (List.mem_of_mem_take hc))
theorem opT_fieldOne {T f d : Nat} {x : Operand} (ho : o.op = .field T x f) {cs : List SV} {ft : TypeId} {c : SV} (hx : ρ x = .agg cs) {fs : Array Field} {fd : Field}
    (hT : P.underlying T = some (.struct fs)) (hf : fs[f]? = some fd) (hd : fd.offset = d) (hft : fd.type = ft) (ha : tagg P ft = some false) (hc : cs[d]? = some c) : OpT P o ρ bx c bx [] :=
  .of_value fun _ S w β a hi h => by
    have hx1 := h x (mo ho (by simp [Op.operands])); rw [hx] at hx1
    generalize hv : a.eval x = v at hx1
    cases hx1 with
    | agg _ vs hl h1 h2 =>
      subst hd hft
      have hj : fd.offset < vs.length := by have := (List.getElem?_eq_some_iff.1 hc).1; omega
      refine ⟨vs[fd.offset], ?_, h2 _ c _ hc (List.getElem?_eq_getElem hj)⟩
      simp [execOp, ho, hv, Instr.field, underlying, hT, hf, Go.part, run_isAgg ha, asAgg, hj]

/-! nilCheck -/
theorem opT_nilBox {x : Operand} (ho : o.op = .nilCheck x) {k off : Nat} (hx : ρ x = .box k off) : OpT P o ρ bx (.box k off) bx [] :=
  .of_value fun _ _ w β a hi ha => by
    have hx1 := (ha x (mo ho (by simp [Op.operands, Call.operands]))); rw [hx] at hx1
    obtain ⟨b, hbase, hv⟩ := hx1.inv_box
    exact ⟨a.eval x, by simp [execOp, ho, hv], hx1⟩
theorem opT_nilPtr {x : Operand} (ho : o.op = .nilCheck x) {cells : List D} {off : Nat} (hx : IsPtr (ρ x) cells off) : OpT P o ρ bx (ρ x) bx [] :=
  .of_value fun _ _ w β a hi ha => by
    obtain ⟨b, base, hp⟩ := ((ha x (mo ho (by simp [Op.operands, Call.operands])))).inv_isPtr hx
    exact ⟨a.eval x, by simp [execOp, ho, hp.v], (ha x (mo ho (by simp [Op.operands, Call.operands])))⟩

/-! lengths -/
theorem run_len_slice {T : TypeId} {e : TypeId} (hT : selem P T = some e) (a : Option Addr) (n c : Nat) (ty : TypeId) (w : World) : (Builtin.len_ #[T] ty #[.slice a n c]).run P w = .ok (.int .i64 n) w := by
  unfold selem at hT
  cases hu : P.underlying T with
  | none => simp [hu] at hT
  | some d =>
    rw [hu] at hT
    cases d <;> simp only [reduceCtorEq, Option.some.injEq] at hT
    simp [Builtin.len_, underlying, hu, goInt]

theorem opT_lenSlice {T e : Nat} {x : Operand} (ho : o.op = .call { callee := .builtin .len, args := #[x], argTypes := #[T] }) {rows : List (List D)} (hx : ρ x = .d (.slice rows)) (hT : selem P T = some e) :
    OpT P o ρ bx (.d (.int .i64 rows.length)) bx [] :=
  .of_value fun _ _ w β a hi ha => by
    have hx1 := (ha x (mo ho (by simp [Op.operands, Call.operands]))); rw [hx] at hx1
    generalize hv : a.eval x = v at hx1
    refine ⟨.int .i64 rows.length, ?_, .int _ _⟩
    cases hx1 with
    | d _ _ hx1 =>
      cases hx1 <;> simp [execOp, ho, resolve, invoke, builtin, hv, run_len_slice hT]
theorem opT_lenNil {T e : Nat} {x : Operand} (ho : o.op = .call { callee := .builtin .len, args := #[x], argTypes := #[T] }) (hx : ρ x = .d .nil ∨ ρ x = .d .emp) (hT : selem P T = some e) :
    OpT P o ρ bx (.d (.int .i64 0)) bx [] :=
  .of_value fun _ _ w β a hi ha => by
    have hx1 := (ha x (mo ho (by simp [Op.operands, Call.operands])))
    generalize hv : a.eval x = v at hx1
    refine ⟨.int .i64 0, ?_, .int _ _⟩
    rcases hx with hx | hx <;> rw [hx] at hx1 <;> cases hx1 with
    | d _ _ hx1 => cases hx1; simp [execOp, ho, resolve, invoke, builtin, hv, run_len_slice hT]
theorem opT_lenAcc {T e : Nat} {x : Operand} (ho : o.op = .call { callee := .builtin .len, args := #[x], argTypes := #[T] }) {q sz : Nat} {rows : List (List D)} (hx : ρ x = .acc q) (hb : (q, BoxC.rows sz rows) ∈ bx) (hT : selem P T = some e) :
    OpT P o ρ bx (.d (.int .i64 rows.length)) bx [] :=
  .of_value fun _ _ w β a hi ha => by
    have hx1 := (ha x (mo ho (by simp [Op.operands, Call.operands]))); rw [hx] at hx1
    generalize hv : a.eval x = v at hx1
    obtain ⟨g1, g2, _⟩ := hi.box q _ hb
    refine ⟨.int .i64 rows.length, ?_, .int _ _⟩
    cases hx1 with
    | acc q => simp [execOp, ho, resolve, invoke, builtin, hv, run_len_slice hT, g2]
theorem opT_lenStr {T : Nat} {x : Operand} (ho : o.op = .call { callee := .builtin .len, args := #[x], argTypes := #[T] }) {s : Str} (hx : ρ x = .d (.str s)) (hT : P.underlying T = some .string) :
    OpT P o ρ bx (.d (.int .i64 s.length)) bx [] :=
  .of_value fun _ _ w β a hi ha => by
    have hx1 := (ha x (mo ho (by simp [Op.operands, Call.operands]))); rw [hx] at hx1; have hv := hx1.inv_str.1
    refine ⟨.int .i64 s.length, ?_, .int _ _⟩
    simp [execOp, ho, resolve, invoke, builtin, hv, Builtin.len_, underlying, hT, goInt, mkStr_size]

/-! comparing with nil -/
def nilCmp (op : BinOp) (isnil : Bool) : Option Bool :=
  match op with
  | .eql => some isnil
  | .neq => some (!isnil)
  | _ => none
/-- is a pointer nil? -/
def ptrNil : SV → Option Bool
  | .d .nilptr => some true
  | .d (.ptr _) | .dptr _ _ | .box _ _ | .aptr _ _ _ => some false
  | _ => none
theorem RepV.ptrNil {S : Nat → Prop} {w : World} {β : Names} {x : SV} {v : Value} (h : RepV S w β x v) {b : Bool} (hb : ptrNil x = some b) : ∃ p, v = .pointer p ∧ p.isNone = b := by
  cases h with
  | d _ _ h => cases h <;> simp [Abs.ptrNil] at hb <;> subst hb <;> exact ⟨_, rfl, rfl⟩
  | box _ _ _ _ => simp [Abs.ptrNil] at hb; subst hb; exact ⟨_, rfl, rfl⟩
  | dptr _ _ _ _ _ _ _ => simp [Abs.ptrNil] at hb; subst hb; exact ⟨_, rfl, rfl⟩
  | aptr _ _ _ _ _ => simp [Abs.ptrNil] at hb; subst hb; exact ⟨_, rfl, rfl⟩
  | _ => simp [Abs.ptrNil] at hb
theorem opT_ptrNil {op : BinOp} {t u : TypeId} {x y : Operand} (ho : o.op = .binOp op t x y u) {b r : Bool} (ht : (P.underlying t).any (fun d => match d with | .pointer _ => true | _ => false) = true)
    (hx : ptrNil (ρ x) = some b) (hy : ρ y = .d .nilptr) (hb : nilCmp op b = some r) : OpT P o ρ bx (.d (.bool r)) bx [] :=
  .of_value fun _ _ w _ a _ ha => by
    obtain ⟨p, hp, hpb⟩ := ((ha x (mo ho (by simp [Op.operands, Call.operands])))).ptrNil hx
    have h2 := (ha y (mo ho (by simp [Op.operands, Call.operands]))); rw [hy] at h2
    have h2 : a.eval y = .pointer none := by generalize a.eval y = z at h2; cases h2 with | d _ _ h => cases h; rfl
    refine ⟨.bool r, ?_, .bool r⟩
    cases hu : P.underlying t with
    | none => simp [hu] at ht
    | some d =>
      cases d <;> simp [hu] at ht
      rename_i e
      have heq : (Op.equal t (.pointer p) (.pointer none)).run P w = .ok b w := by
        unfold Op.equal Op.maxDepth Op.equalIn
        cases p <;> simp [underlying, hu] at * <;> subst hpb <;> rfl
      simp only [execOp, ho, Sem.run_bind, Sem.run_map, hp, h2, eqGuard_ptr, Result.andThen_ok]
      cases op <;> first
        | (simp only [nilCmp, reduceCtorEq] at hb; done)
        | (simp only [nilCmp, Option.some.injEq] at hb; subst hb; simp [binOp, heq])
/-- is a slice nil? -/
def sliceNil : SV → Option Bool
  | .d .nil => some true
  | .d .emp => some false
  | .d (.slice (_ :: _)) => some false
  | _ => none
theorem RepV.sliceNil {S : Nat → Prop} {w : World} {β : Names} {x : SV} {v : Value} (h : RepV S w β x v) {b : Bool} (hb : sliceNil x = some b) : ∃ p l c, v = .slice p l c ∧ p.isNone = b := by
  cases h with
  | d _ _ h =>
    cases h with
    | nil => simp [Abs.sliceNil] at hb; subst hb; exact ⟨_, _, _, rfl, rfl⟩
    | emp => simp [Abs.sliceNil] at hb; subst hb; exact ⟨_, _, _, rfl, rfl⟩
    | slice0 => simp [Abs.sliceNil] at hb
    | slice rows => cases rows <;> simp [Abs.sliceNil] at hb; subst hb; exact ⟨_, _, _, rfl, rfl⟩
    | _ => simp [Abs.sliceNil] at hb
  | _ => simp [Abs.sliceNil] at hb
theorem opT_sliceNil {op : BinOp} {t u : TypeId} {x y : Operand} (ho : o.op = .binOp op t x y u) {e : Nat} {b r : Bool} (ht : selem P t = some e)
    (hx : sliceNil (ρ x) = some b) (hy : ρ y = .d .nil) (hb : nilCmp op b = some r) : OpT P o ρ bx (.d (.bool r)) bx [] :=
  .of_value fun _ _ w _ a _ ha => by
    obtain ⟨p, l, c, hp, hpb⟩ := ((ha x (mo ho (by simp [Op.operands, Call.operands])))).sliceNil hx
    have h2 := (ha y (mo ho (by simp [Op.operands, Call.operands]))); rw [hy] at h2
    have h2 : a.eval y = .slice none 0 0 := by generalize a.eval y = z at h2; cases h2 with | d _ _ h => cases h; rfl
    refine ⟨.bool r, ?_, .bool r⟩
    unfold selem at ht
    cases hu : P.underlying t with
    | none => simp [hu] at ht
    | some d =>
      rw [hu] at ht
      cases d <;> simp only [reduceCtorEq, Option.some.injEq] at ht
      rename_i e
      have heq : (Op.equal t (.slice p l c) (.slice none 0 0)).run P w = .ok b w := by
        unfold Op.equal Op.maxDepth Op.equalIn
        cases p <;> simp [underlying, hu] at * <;> subst hpb <;> rfl
      simp only [execOp, ho, Sem.run_bind, Sem.run_map, hp, h2, eqGuard_slice, Result.andThen_ok]
      cases op <;> first
        | (simp only [nilCmp, reduceCtorEq] at hb; done)
        | (simp only [nilCmp, Option.some.injEq] at hb; subst hb; simp [binOp, heq])

end Go.Abs
