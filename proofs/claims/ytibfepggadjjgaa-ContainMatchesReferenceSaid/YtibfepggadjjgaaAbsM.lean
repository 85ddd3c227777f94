/- Contracts out of bodies; publishing as a step between regions. Own framework, part M. -/
import Derived.Test.YtibfepggadjjgaaAbsL
namespace Go.Abs
open Go

variable {P : Program} {n : Nat} {Q : Exit → SL → Boxes → Prop} {sl : SL} {bx : Boxes}

/-! what is read at an address -/
def loadSV (P : Program) (bx : Boxes) (T : TypeId) (x : SV) : Option SV :=
  match x with
  | .box k off => match bget bx k with
    | some (.cells cs) => match tagg P T with
      | some false => cs[off]?
      | some true => match tsize P T with
        | some m => if off + m ≤ cs.length ∧ (part cs off m).all SV.one = true then some (.agg (part cs off m)) else none
        | none => none
      | none => none
    | _ => none
  | .dptr cells off => match tagg P T with
    | some false => (cells[off]?).map SV.d
    | some true => match tsize P T with
      | some m => if off + m ≤ cells.length then some (.agg ((partD cells off m).map SV.d)) else none
      | none => none
    | none => none
  | .d (.ptr cells) => match tagg P T with
    | some false => (cells[0]?).map SV.d
    | some true => match tsize P T with
      | some m => if 0 + m ≤ cells.length then some (.agg ((partD cells 0 m).map SV.d)) else none
      | none => none
    | none => none
  | .aptr k i off => match bget bx k with
    | some (.rows sz rows) => match rows[i]? with
      | some row => match tagg P T with
        | some false => (row[off]?).map SV.d
        | some true => match tsize P T with
          | some m => if off + m ≤ row.length ∧ row.length = sz then some (.agg ((partD row off m).map SV.d)) else none
          | none => none
        | none => none
      | none => none
    | _ => none
  | _ => none

/-- a row of a box, as data at an address -/
theorem row_ptr {S : Nat → Prop} {w : World} {β : Names} {k i off sz : Nat} {rows : List (List D)} {row : List D} {v : Value} (hb : BoxOK S w β (β k) (.rows sz rows)) (hr : rows[i]? = some row) (hv : RepV S w β (.aptr k i off) v) :
    ∃ b base, v = .pointer (some ⟨b, base + off, none⟩) ∧ (∀ d, d ∈ row → d.one = true) ∧ (∀ j, j < row.length → ∃ v, w.cell? ⟨b, base + j, none⟩ = some v) ∧ (∀ (j : Nat) (d : D) (v : Value), row[j]? = some d → w.cell? ⟨b, base + j, none⟩ = some v → RepC S w d v) := by
  cases hv with
  | aptr _ _ _ b hbase =>
    obtain ⟨g1, g2, g3, g4, g5, g6, g7⟩ := hb
    subst g1
    rw [hbase] at g7
    obtain ⟨ty, vs, hh, hfit, hrep⟩ := g7
    have hmem := List.mem_of_getElem? hr
    have hlt := (List.getElem?_eq_some_iff.1 hr).1
    refine ⟨b, ((β k).off + i) * (β k).sz, rfl, g6 row hmem, ?_, ?_⟩
    · intro j hj
      rw [g5 row hmem] at hj
      have h1 : ((β k).off + i + 1) * (β k).sz ≤ ((β k).off + (β k).cap) * (β k).sz := Nat.mul_le_mul_right _ (by omega)
      rw [Nat.add_mul _ 1] at h1
      have : ((β k).off + i) * (β k).sz + j < vs.length := by omega
      exact ⟨vs[((β k).off + i) * (β k).sz + j], by rw [cells_of_row hh]; exact List.getElem?_eq_getElem this⟩
    · intro j d u hd hu
      rw [cells_of_row hh] at hu
      exact hrep i j row d u hr hd hu

theorem loadSV_run {C : Ctx} {S : Nat → Prop} {w : World} {β : Names} {T : TypeId} {x c : SV} {v : Value} (hi : Inv C S w β bx) (hv : RepV S w β x v) (h : loadSV P bx T x = some c) :
    ∃ a u, v = .pointer (some a) ∧ (loadVar T a).run P w = .ok u w ∧ RepV S w β c u := by
  have conv : ∀ {p : Addr} {u : Value}, (Instr.loadAt T (.pointer (some p))).run P w = .ok u w → (loadVar T p).run P w = .ok u w := by
    intro p u hu; simpa [Instr.loadAt, Instr.sureAddr] using hu
  have ptrCase : ∀ {cells : List D} {off : Nat} {b base : Nat}, v = .pointer (some ⟨b, base + off, none⟩) → (∀ d, d ∈ cells → d.one = true) → (∀ j, j < cells.length → ∃ v, w.cell? ⟨b, base + j, none⟩ = some v) →
      (∀ (j : Nat) (d : D) (v : Value), cells[j]? = some d → w.cell? ⟨b, base + j, none⟩ = some v → RepC S w d v) →
      (match tagg P T with
        | some false => (cells[off]?).map SV.d
        | some true => match tsize P T with
          | some m => if off + m ≤ cells.length then some (.agg ((partD cells off m).map SV.d)) else none
          | none => none
        | none => none) = some c → ∃ a u, v = .pointer (some a) ∧ (loadVar T a).run P w = .ok u w ∧ RepV S w β c u := by
    intro cells off b base hv h1 h2 h3 h
    cases hT : tagg P T with
    | none => simp [hT] at h
    | some g =>
      cases g with
      | false =>
        simp only [hT, Option.map_eq_some_iff] at h
        obtain ⟨d, hd, rfl⟩ := h
        obtain ⟨u, hu⟩ := h2 off (List.getElem?_eq_some_iff.1 hd).1
        exact ⟨_, u, hv, conv (run_loadAt_one hT hu), .d _ _ (h3 off d u hd hu)⟩
      | true =>
        simp only [hT] at h
        cases hs : tsize P T with
        | none => simp [hs] at h
        | some m =>
          simp only [hs] at h
          split at h
          · rename_i hl
            simp only [Option.some.injEq] at h; subst h
            obtain ⟨vs, hvl, hvs⟩ := exists_cells (w := w) (b := b) (off := base + off) (n := m) (fun j hj => by rw [Nat.add_assoc]; exact h2 (off + j) (by omega))
            refine ⟨_, .agg ⟨vs⟩, hv, conv (run_loadAt_agg hT hs hvl hvs), repV_agg_of (.agg _ vs (by simp [partD, hvl]; omega) ?_ ?_)⟩
            · intro d hd; exact h1 d (List.mem_of_mem_drop (List.mem_of_mem_take hd))
            · intro j d u hd hu
              simp only [partD, List.getElem?_take, List.getElem?_drop] at hd
              split at hd
              · exact h3 (off + j) d u hd (by rw [← Nat.add_assoc]; exact hvs j u hu)
              · simp at hd
          · simp at h
  cases x with
  | box k off =>
    obtain ⟨b, hbase, rfl⟩ := hv.inv_box
    simp only [loadSV] at h
    cases hb : bget bx k with
    | none => simp [hb] at h
    | some bc =>
      cases bc with
      | cells cs =>
        simp only [hb] at h
        obtain ⟨b', ty, vs, hb', hh, hr⟩ := hi.box k _ (mem_of_bget hb)
        rw [hbase] at hb'; cases hb'
        cases hT : tagg P T with
        | none => simp [hT] at h
        | some g =>
          cases g with
          | false =>
            simp only [hT] at h
            obtain ⟨u, hu, hrep⟩ := hr.get h
            exact ⟨_, u, rfl, conv (run_loadAt_one hT (by rw [cells_of_row hh]; exact hu)), hrep⟩
          | true =>
            simp only [hT] at h
            cases hs : tsize P T with
            | none => simp [hs] at h
            | some m =>
              simp only [hs] at h
              split at h
              · rename_i hl
                simp only [Option.some.injEq] at h; subst h
                have := hr.1
                refine ⟨_, .agg ⟨(vs.drop off).take m⟩, rfl, conv (run_loadAt_agg hT hs (by simp; omega) ?_), RepV.agg_of (hr.part off m) hl.2⟩
                intro j u hu
                rw [cells_of_row hh]
                simp only [List.getElem?_take, List.getElem?_drop] at hu
                split at hu
                · exact hu
                · simp at hu
              · simp at h
      | rows _ _ => simp [hb] at h
      | map _ => simp [hb] at h
  | dptr cells off =>
    obtain ⟨b, base, hp⟩ := hv.inv_dptr
    exact ptrCase hp.v hp.one hp.there hp.rep h
  | d y =>
    cases y <;> simp only [loadSV, reduceCtorEq] at h
    rename_i cells
    obtain ⟨b, base, hp⟩ := hv.inv_ptr
    exact ptrCase hp.v hp.one hp.there hp.rep h
  | aptr k i off =>
    simp only [loadSV] at h
    cases hb : bget bx k with
    | none => simp [hb] at h
    | some bc =>
      cases bc with
      | rows sz rows =>
        simp only [hb] at h
        cases hr : rows[i]? with
        | none => simp [hr] at h
        | some row =>
          simp only [hr] at h
          obtain ⟨b, base, h0, h1, h2, h3⟩ := row_ptr (hi.box k _ (mem_of_bget hb)) hr hv
          refine ptrCase h0 h1 h2 h3 ?_
          cases hT : tagg P T with
          | none => simp [hT] at h
          | some g =>
            cases g with
            | false => simpa [hT] using h
            | true =>
              simp only [hT] at h ⊢
              cases hs : tsize P T with
              | none => simp [hs] at h
              | some m =>
                simp only [hs] at h ⊢
                split at h
                · rename_i hl; rw [if_pos hl.1]; exact h
                · simp at h
      | cells _ => simp [hb] at h
      | map _ => simp [hb] at h
  | undef => simp [loadSV] at h
  | agg _ => simp [loadSV] at h
  | tuple _ => simp [loadSV] at h
  | acc _ => simp [loadSV] at h
  | mp _ => simp [loadSV] at h
  | clo _ _ => simp [loadSV] at h

theorem opT_load {o : Oper} {ρ : Rho} {T : TypeId} {x : Operand} (ho : o.op = .load T x) {c : SV} (h : loadSV P bx T (ρ x) = some c) : OpT P o ρ bx c bx [] :=
  .of_value fun _ _ w β a hi ha => by
    obtain ⟨p, u, hv, hr, hc⟩ := loadSV_run hi (ha x (mo ho (by simp [Op.operands]))) h
    exact ⟨u, by simp [execOp, ho, hv, Instr.loadAt, Instr.sureAddr, hr], hc⟩

/-! results -/
def resOne (P : Program) (bx : Boxes) (sl : SL) : ResultVar → Option SV
  | .tmp t => some (sget sl t)
  | .cell t T => loadSV P bx T (sget sl t)
def resL (P : Program) (bx : Boxes) (sl : SL) : List ResultVar → Option (List SV)
  | [] => some []
  | r :: rs => match resOne P bx sl r with
    | some x => match resL P bx sl rs with
      | some l => some (x :: l)
      | none => none
    | none => none
def wrapRes : List SV → SV
  | [x] => x
  | xs => .tuple xs

theorem run_resL {C : Ctx} {S : Nat → Prop} {w : World} {β : Names} {a : Act} (hs : St C n S w β a sl bx) (g : ResultVar → Sem Value) (g1 : ∀ t, g (.tmp t) = pure (a.tmps.getD t undef))
    (g2 : ∀ x t, g (.cell x t) = do loadVar t (← asAddr (a.tmps.getD x undef))) : ∀ (rs : List ResultVar) (xs : List SV), resL P bx sl rs = some xs → ∃ vs, (rs.mapM g).run P w = .ok vs w ∧ RepL S w β xs vs
  | [], xs, h => by simp only [resL, Option.some.injEq] at h; subst h; exact ⟨[], rfl, .nil⟩
  | r :: rs, xs, h => by
    simp only [resL] at h
    cases h1 : resOne P bx sl r with
    | none => simp [h1] at h
    | some x =>
      cases h2 : resL P bx sl rs with
      | none => simp [h1, h2] at h
      | some l =>
        simp only [h1, h2, Option.some.injEq] at h; subst h
        obtain ⟨vs, q1, q2⟩ := run_resL hs g g1 g2 rs l h2
        cases r with
        | tmp t =>
          simp only [resOne, Option.some.injEq] at h1; subst h1
          refine ⟨_ :: vs, ?_, .cons (hs.slot t) q2⟩
          simp only [List.mapM_cons, Sem.run_bind, g1, Sem.run_pure, Result.andThen_ok, q1]
        | cell t T =>
          simp only [resOne] at h1
          obtain ⟨p, u, hv, hr, hc⟩ := loadSV_run hs.inv (hs.slot t) h1
          refine ⟨u :: vs, ?_, .cons hc q2⟩
          have hA : asAddr (.pointer (some p)) = pure p := rfl
          simp only [List.mapM_cons, Sem.run_bind, g2, hv, hA, Sem.run_pure, Result.andThen_ok, hr, q1]

theorem run_results {C : Ctx} {S : Nat → Prop} {w : World} {β : Names} {a : Act} {fn : Func} (hs : St C n S w β a sl bx) {xs : List SV} (h : resL P bx sl fn.results.toList = some xs) :
    ∃ v, (results fn a.tmps).run P w = .ok v w ∧ RepV S w β (wrapRes xs) v := by
  have key : ∀ (g : ResultVar → Sem Value), (∀ t, g (.tmp t) = pure (a.tmps.getD t undef)) → (∀ x t, g (.cell x t) = do loadVar t (← asAddr (a.tmps.getD x undef))) →
      ∃ v, (do let vs ← fn.results.mapM g; pure (if h : vs.size = 1 then vs[0] else .tuple vs) : Sem Value).run P w = .ok v w ∧ RepV S w β (wrapRes xs) v := by
    intro g g1 g2
    obtain ⟨vs, h1, h2⟩ := run_resL hs g g1 g2 _ _ h
    have hm : (fn.results.mapM g).run P w = .ok ⟨vs⟩ w := by
      rw [Array.mapM_eq_mapM_toList, Sem.run_map, h1]; rfl
    have hl := h2.1
    simp only [Sem.run_bind, hm, Result.andThen_ok, Sem.run_pure]
    match xs, vs, h2, hl with
    | [], [], h2, _ => exact ⟨.tuple ⟨[]⟩, rfl, .tuple [] [] rfl (by simp)⟩
    | [x], [v], h2, _ => exact ⟨v, rfl, h2.2 0 x v rfl rfl⟩
    | x :: y :: xs, v :: u :: vs, h2, _ => exact ⟨.tuple ⟨v :: u :: vs⟩, by simp, .tuple _ _ h2.1 h2.2⟩
    | [], _ :: _, _, hl => simp at hl
    | [_], [], _, hl => simp at hl
    | [_], _ :: _ :: _, _, hl => simp at hl
    | _ :: _ :: _, [], _, hl => simp at hl
    | _ :: _ :: _, [_], _, hl => simp at hl
  exact key _ (fun _ => rfl) (fun _ _ => rfl)

/-! a contract out of a body -/
def argSl : Nat → List SV → SL
  | _, [] => []
  | i, x :: xs => (i, x) :: argSl (i + 1) xs
theorem sget_argSl : ∀ (xs : List SV) (i t : Nat), sget (argSl i xs) t = if i ≤ t then (xs[t - i]?).getD .undef else .undef
  | [], i, t => by simp [argSl, sget]
  | x :: xs, i, t => by
    simp only [argSl, sget]
    split
    · subst_vars; simp
    · rename_i hne
      rw [sget_argSl xs (i + 1) t]
      by_cases h : i + 1 ≤ t
      · rw [if_pos h, if_pos (by omega), show t - i = (t - (i + 1)) + 1 by omega, List.getElem?_cons_succ]
      · rw [if_neg h, if_neg (by omega)]

/-- how the call may end: data alone -/
def retOK (P : Program) (fn : Func) (r : SV) (e : Exit) (sl : SL) (bx : Boxes) : Prop :=
  match e with
  | .normal | .ret => ∃ xs, resL P bx sl fn.results.toList = some xs ∧ coerce bx (wrapRes xs) = some r
  | _ => False

theorem St.start {C : Ctx} {β : Names} {pre : Boxes} {args : List SV} {vs : List Value} {m : Nat} (hi : Inv C C.S0 C.w0 β pre) (hv : RepL C.S0 C.w0 β args vs) (hm : args.length ≤ m) :
    St C m C.S0 C.w0 β { tmps := (⟨vs⟩ : Array Value) ++ Array.replicate (m - (⟨vs⟩ : Array Value).size) undef, defers := [] } (argSl 0 args) pre := by
  have hl := hv.1
  refine ⟨hi, by simp; omega, rfl, ?_⟩
  intro t
  rw [sget_argSl]
  simp only [Nat.zero_le, if_true, Nat.sub_zero]
  cases ht : args[t]? with
  | none => exact .undef _
  | some x =>
    obtain ⟨v, h1, h2⟩ := hv.get ht
    have hlt := (List.getElem?_eq_some_iff.1 h1).1
    have : ((⟨vs⟩ : Array Value) ++ Array.replicate (m - (⟨vs⟩ : Array Value).size) undef).getD t undef = v := by
      rw [Array.getD_eq_getD_getElem?, Array.getElem?_append_left (by simpa using hlt)]
      simp [h1]
    rw [this]; exact h2

theorem CallOK.of_body {f : FuncId} {fn : Func} {c : Code} {args : List SV} {r : SV} (hf : P.funcs[f]? = some fn) (hb : fn.body = some c) (hn : (fn.name == "runtime.NumGoroutine") = false) (hm : args.length ≤ fn.ntmps)
    (h : AWp P fn.ntmps c (retOK P fn r) (argSl 0 args) []) : CallOK P f args r := by
  refine ⟨⟨fn, hf, hn, by rw [hb]; rfl⟩, ?_⟩
  intro C β vs hi hv
  refine calls_of_wp hf hb ?_
  refine wp_mono (h C C.S0 C.w0 β _ (St.start hi hv hm)) ?_
  rintro e a' w' ⟨sl', bx', S', β', q, hs⟩
  have key : (∃ xs, resL P bx' sl' fn.results.toList = some xs ∧ coerce bx' (wrapRes xs) = some r) → a'.defers = [] ∧ ∃ v, (results fn a'.tmps).run P w' = .ok v w' ∧
      ∃ v' S'' β'', Ending.returned v = .returned v' ∧ Inv C S'' w' β'' [] ∧ RepV S'' w' β'' r v' := by
    rintro ⟨xs, h1, h2⟩
    obtain ⟨v, h3, h4⟩ := run_results (P := P) hs h1
    refine ⟨hs.defers, v, h3, v, fun b => S' b ∨ ∃ k c, (k, c) ∈ bx' ∧ (β' k).base = some b, β', rfl, ?_, ?_⟩
    · exact {
        S0sub := fun b hb => .inl (hs.inv.S0sub b hb)
        Snew := fun b hb => by
          rcases hb with hb | ⟨k, c, hk, hb⟩
          · exact hs.inv.Snew b hb
          · exact .inr (hs.inv.priv k c hk b hb).2.2
        Slt := fun b hb => by
          rcases hb with hb | ⟨k, c, hk, hb⟩
          · exact hs.inv.Slt b hb
          · exact (hs.inv.priv k c hk b hb).2.1
        kept := hs.inv.kept
        os := hs.inv.os
        tape := hs.inv.tape
        output := hs.inv.output
        size := hs.inv.size
        box := fun k c hk => by simp at hk
        priv := fun k c hk => by simp at hk
        inj := fun k c k' c' hk => by simp at hk
        fix := hs.inv.fix }
    · exact (coerce_rep hs.inv ⟨fun _ h => .inl h, fun _ _ => rfl⟩ (fun k c hk b hb => .inr ⟨k, c, hk, hb⟩) h2 h4).1
  cases e with
  | normal => exact key q
  | ret => exact key q
  | _ => exact q.elim

/-! publishing between regions -/
structure Rep1 where
  fb : Nat → SV
  fa : SV
  fm : SV
mutual
def SV.sub (k : Nat) (f : Rep1) : SV → SV
  | .box j off => if j = k then f.fb off else .box j off
  | .acc j => if j = k then f.fa else .acc j
  | .mp j => if j = k then f.fm else .mp j
  | .aptr j i off => .aptr j i off
  | .agg cs => .agg (SV.subL k f cs)
  | .tuple cs => .tuple (SV.subL k f cs)
  | .clo g cs => .clo g (SV.subL k f cs)
  | .undef => .undef
  | .d x => .d x
  | .dptr c off => .dptr c off
def SV.subL (k : Nat) (f : Rep1) : List SV → List SV
  | [] => []
  | c :: cs => c.sub k f :: SV.subL k f cs
end
theorem SV.subL_eq (k : Nat) (f : Rep1) : ∀ cs : List SV, SV.subL k f cs = cs.map (SV.sub k f)
  | [] => rfl
  | c :: cs => by simp [SV.subL, SV.subL_eq k f cs]

structure Rep1OK (S S' : Nat → Prop) (w : World) (β : Names) (k : Nat) (f : Rep1) : Prop where
  fb : ∀ off v, RepV S w β (.box k off) v → RepV S' w β (f.fb off) v
  fa : ∀ v, RepV S w β (.acc k) v → RepV S' w β f.fa v
  fm : ∀ v, RepV S w β (.mp k) v → RepV S' w β f.fm v
  one : (∀ off, (f.fb off).one = true) ∧ f.fa.one = true ∧ f.fm.one = true

theorem SV.sub_one {S S' : Nat → Prop} {w : World} {β : Names} {k : Nat} {f : Rep1} (hf : Rep1OK S S' w β k f) {x : SV} (h : x.one = true) : (x.sub k f).one = true := by
  cases x <;> simp only [SV.sub] <;> first
    | exact h
    | (split; exact hf.one.1 _; rfl)
    | (split; exact hf.one.2.1; rfl)
    | (split; exact hf.one.2.2; rfl)
    | rfl

theorem RepV.sub {S S' : Nat → Prop} {w : World} {β : Names} {k : Nat} {f : Rep1} (hf : Rep1OK S S' w β k f) (e : SExt S w S' w) {x : SV} {v : Value} (h : RepV S w β x v) : RepV S' w β (x.sub k f) v := by
  induction h with
  | undef v => exact .undef v
  | d x v h => exact .d x v (h.ext e)
  | agg cells vs h1 h2 _ ih =>
    simp only [SV.sub, SV.subL_eq]
    refine .agg _ vs (by simpa using h1) ?_ ?_
    · intro c hc
      obtain ⟨x, hx, rfl⟩ := List.mem_map.1 hc
      exact SV.sub_one hf (h2 x hx)
    · intro j c v hc hv
      obtain ⟨x, hx, rfl⟩ := by simpa using hc
      exact ih j x v hx hv
  | tuple cells vs h1 _ ih =>
    simp only [SV.sub, SV.subL_eq]
    refine .tuple _ vs (by simpa using h1) ?_
    intro j c v hc hv
    obtain ⟨x, hx, rfl⟩ := by simpa using hc
    exact ih j x v hx hv
  | box j off b h =>
    simp only [SV.sub]
    split
    · subst_vars; exact hf.fb off _ (.box _ off b h)
    · exact .box j off b h
  | dptr cells off b base h1 h2 h3 h4 => exact RepV.ext (.dptr cells off b base h1 h2 h3 h4) e (fun _ _ => rfl)
  | acc j =>
    simp only [SV.sub]
    split
    · subst_vars; exact hf.fa _ (.acc _)
    · exact .acc j
  | aptr j i off b h => exact .aptr j i off b h
  | mp j b h =>
    simp only [SV.sub]
    split
    · subst_vars; exact hf.fm _ (.mp _ b h)
    · exact .mp j b h
  | clo f cells vs h1 _ ih =>
    simp only [SV.sub, SV.subL_eq]
    refine .clo f _ vs (by simpa using h1) ?_
    intro j c v hc hv
    obtain ⟨x, hx, rfl⟩ := by simpa using hc
    exact ih j x v hx hv

def subSl (k : Nat) (f : Rep1) : SL → SL
  | [] => []
  | (t, x) :: r => (t, x.sub k f) :: subSl k f r
def BoxC.sub (k : Nat) (f : Rep1) : BoxC → BoxC
  | .cells cs => .cells (SV.subL k f cs)
  | c => c
def subBx (k : Nat) (f : Rep1) : Boxes → Boxes
  | [] => []
  | (j, c) :: r => (j, c.sub k f) :: subBx k f r
theorem sget_subSl (k : Nat) (f : Rep1) : ∀ (sl : SL) (t : Nat), sget (subSl k f sl) t = (sget sl t).sub k f
  | [], t => rfl
  | (u, x) :: r, t => by
    simp only [subSl, sget]
    split
    · rfl
    · exact sget_subSl k f r t
theorem mem_subBx {k j : Nat} {f : Rep1} {c : BoxC} : ∀ {bx : Boxes}, (j, c) ∈ subBx k f bx → ∃ x, (j, x) ∈ bx ∧ c = x.sub k f
  | [], h => by simp [subBx] at h
  | (i, x) :: r, h => by
    simp only [subBx, List.mem_cons, Prod.mk.injEq] at h
    rcases h with ⟨h1, h2⟩ | h
    · subst h1; exact ⟨x, by simp, h2⟩
    · obtain ⟨y, hy, hc⟩ := mem_subBx h; exact ⟨y, by simp [hy], hc⟩

/-- a box's block joins what stays -/
theorem AWp.pubCore {c : Code} (k : Nat) {bc : BoxC} {f : Rep1} (hk : (k, bc) ∈ bx)
    (hf : ∀ (S : Nat → Prop) (w : World) (β : Names), BoxOK S w β (β k) bc → (∀ b, (β k).base = some b → S b) → Rep1OK S S w β k f)
    (h : AWp P n c Q (subSl k f sl) (subBx k f (berase k bx))) : AWp P n c Q sl bx := by
  intro C S w β a hs
  let S' : Nat → Prop := fun b => S b ∨ (β k).base = some b
  have e : SExt S w S' w := ⟨fun _ h => .inl h, fun _ _ => rfl⟩
  have hi := hs.inv
  have hbox : BoxOK S' w β (β k) bc := (hi.box k _ hk).ext e (fun _ _ => rfl) (fun _ _ => rfl)
  have hr1 := hf S' w β hbox (fun b hb => .inr hb)
  have hr : Rep1OK S' S' w β k f := hr1
  have hsub : ∀ {x : SV} {v : Value}, RepV S w β x v → RepV S' w β (x.sub k f) v := fun hv => (hv.ext e (fun _ _ => rfl)).sub hr (SExt.refl _ _)
  refine h C S' w β a ⟨?_, hs.size, hs.defers, fun t => by rw [sget_subSl]; exact hsub (hs.slot t)⟩
  exact {
    S0sub := fun b hb => .inl (hi.S0sub b hb)
    Snew := fun b hb => by
      rcases hb with hb | hb
      · exact hi.Snew b hb
      · exact .inr (hi.priv k _ hk b hb).2.2
    Slt := fun b hb => by
      rcases hb with hb | hb
      · exact hi.Slt b hb
      · exact (hi.priv k _ hk b hb).2.1
    kept := hi.kept
    os := hi.os
    tape := hi.tape
    output := hi.output
    size := hi.size
    box := fun j c hj => by
      obtain ⟨x, hx, rfl⟩ := mem_subBx hj
      obtain ⟨hne, hx⟩ := mem_berase.1 hx
      have := hi.box j x hx
      cases x with
      | cells cs =>
        obtain ⟨b, ty, vs, h1, h2, h3⟩ := this
        refine ⟨b, ty, vs, h1, h2, ?_⟩
        rw [SV.subL_eq]
        refine h3.map (by simp) ?_
        intro i x y v hx' hy hv
        simp only [List.getElem?_map, hx', Option.map_some, Option.some.injEq] at hy
        subst hy; exact hsub hv
      | rows sz rs => exact BoxOK.ext (c := .rows sz rs) this e (fun _ _ => rfl) (fun _ _ => rfl)
      | map kvs => exact BoxOK.ext (c := .map kvs) this e (fun _ _ => rfl) (fun _ _ => rfl)
    priv := fun j c hj b hb => by
      obtain ⟨x, hx, rfl⟩ := mem_subBx hj
      obtain ⟨hne, hx⟩ := mem_berase.1 hx
      obtain ⟨h1, h2, h3⟩ := hi.priv j x hx b hb
      refine ⟨fun hs => ?_, h2, h3⟩
      rcases hs with hs | hs
      · exact h1 hs
      · exact hne (hi.inj j x k _ hx hk b hb hs).1
    inj := fun j c j' c' hj hj' b hb hb' => by
      obtain ⟨x, hx, rfl⟩ := mem_subBx hj
      obtain ⟨x', hx', rfl⟩ := mem_subBx hj'
      obtain ⟨h1, h2⟩ := hi.inj j x j' x' (mem_berase.1 hx).2 (mem_berase.1 hx').2 b hb hb'
      exact ⟨h1, by rw [h2]⟩
    fix := hi.fix }

/-- a slice of the call's own becomes data -/
theorem AWp.publish {c : Code} (k : Nat) {sz : Nat} {rs : List (List D)} (hk : bget bx k = some (.rows sz rs))
    (h : AWp P n c Q (subSl k ⟨fun off => .box k off, .d (.slice rs), .mp k⟩ sl) (subBx k ⟨fun off => .box k off, .d (.slice rs), .mp k⟩ (berase k bx))) : AWp P n c Q sl bx :=
  AWp.pubCore k (mem_of_bget hk) (fun S w β hb hS => ⟨fun off v hv => hv, fun v hv => by cases hv; exact .d _ _ (hb.rows_slice hS), fun v hv => hv, fun _ => rfl, rfl, rfl⟩) h

/-- a variable that no one writes any more: whoever holds its address may keep it -/
theorem AWp.freeze {c : Code} (k : Nat) {cs : List SV} {ds : List D} (hk : bget bx k = some (.cells cs)) (hd : toDs cs = some ds)
    (h : AWp P n c Q (subSl k ⟨fun off => .dptr ds off, .acc k, .mp k⟩ sl) (subBx k ⟨fun off => .dptr ds off, .acc k, .mp k⟩ (berase k bx))) : AWp P n c Q sl bx := by
  refine AWp.pubCore k (mem_of_bget hk) (fun S w β hb hS => ⟨fun off v hv => ?_, fun v hv => hv, fun v hv => hv, fun _ => rfl, rfl, rfl⟩) h
  obtain ⟨b, ty, vs, h1, h2, h3⟩ := hb
  obtain ⟨q1, q2, q3⟩ := toDs_rep cs ds vs hd h3
  have hl := h3.1
  cases hv with
  | box _ _ b' hb' =>
    rw [h1] at hb'; cases hb'
    have := RepV.dptr (S := S) (w := w) (β := β) ds off b 0 (hS b h1) q2 (fun j hj => ⟨vs[j]'(by omega), by rw [cells_of_row h2, Nat.zero_add]; exact List.getElem?_eq_getElem _⟩)
      (fun j d v hd hv => q3 j d v hd (by rw [cells_of_row h2, Nat.zero_add] at hv; exact hv))
    simpa using this

/-- a map of the call's own becomes data -/
theorem AWp.publishMap {c : Code} (k : Nat) {kvs : List (D × D)} (hk : bget bx k = some (.map kvs))
    (h : AWp P n c Q (subSl k ⟨fun off => .box k off, .acc k, .d (.map kvs)⟩ sl) (subBx k ⟨fun off => .box k off, .acc k, .d (.map kvs)⟩ (berase k bx))) : AWp P n c Q sl bx := by
  refine AWp.pubCore k (mem_of_bget hk) (fun S w β hb hS => ⟨fun off v hv => hv, fun v hv => hv, fun v hv => ?_, fun _ => rfl, rfl, rfl⟩) h
  obtain ⟨b, es, clock, h1, h2, h3, h4⟩ := hb
  cases hv with
  | mp _ b' hb' =>
    rw [h1] at hb'; cases hb'
    exact .d _ _ (.map _ b es clock (hS b h1) h2 h3 (fun i kv e hk he => (h4 i kv e hk he).1) (fun i kv e hk he => (h4 i kv e hk he).2))

/-- nil, to be appended to, is taken for a slice of the call's own -/
theorem AWp.promote {c : Code} (k sz t : Nat) (hd : sget sl t = .d .nil) (h : AWp P n c Q ((t, .acc k) :: purge1 k sl) ((k, .rows sz []) :: bpurge k (berase k bx))) (hkf : k ≤ 999999 := by decide) : AWp P n c Q sl bx := by
  intro C S w β a hs
  obtain ⟨h1, h2⟩ := hs.inv.setNew (k := k) (w' := w) (c := .rows sz []) { base := none, sz := sz } hkf (by simp) (fun _ _ _ => rfl) rfl rfl rfl (Nat.le_refl _) (fun _ => boxOK_nil)
  refine h C S w _ a ⟨h1, hs.size, hs.defers, ?_⟩
  intro u
  simp only [sget]
  split
  · rename_i he; subst he
    have hv := hs.slot t
    rw [hd] at hv
    generalize a.tmps.getD t undef = v at hv
    cases hv with
    | d _ _ hv =>
      cases hv
      have := RepV.acc (S := S) (w := w) (β := upd β k { base := none, sz := sz }) k
      rw [upd_same] at this
      exact this
  · rw [sget_purge1]
    exact (hs.slot u).purge h2

end Go.Abs
