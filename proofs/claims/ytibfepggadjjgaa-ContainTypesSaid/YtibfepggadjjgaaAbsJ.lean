/- Calls by contract. Own framework, part J. -/
import Derived.Test.YtibfepggadjjgaaAbsI
namespace Go.Abs
open Go

variable {P : Program} {o : Oper} {ρ : Rho} {bx : Boxes}

def Enters (P : Program) (f : FuncId) : Prop := ∃ fn, P.funcs[f]? = some fn ∧ (fn.name == "runtime.NumGoroutine") = false ∧ fn.body.isNone = false

/-- a contract, with boxes handed in and handed back -/
def CallB (P : Program) (f : FuncId) (args : List SV) (pre : Boxes) (r : SV) (post : Boxes) : Prop :=
  Enters P f ∧ ∀ (C : Ctx) (β : Names) (vs : List Value), Inv C C.S0 C.w0 β pre → RepL C.S0 C.w0 β args vs →
    Calls P f ⟨vs⟩ C.w0 (fun e w' => ∃ v S' β', e = .returned v ∧ Inv C S' w' β' post ∧ RepV S' w' β' r v)

/-- a contract: data in, data out -/
def CallOK (P : Program) (f : FuncId) (args : List SV) (r : SV) : Prop := CallB P f args [] r []

theorem run_enter {f : FuncId} (hE : Enters P f) {fo : Operand} {args : Array Operand} {tys : Array TypeId} (ho : o.op = .call { callee := .value fo, args := args, argTypes := tys }) {a : Act} {caps : Array Value} (hf : a.eval fo = .func (.func f) #[] caps) (w : World) :
    (execOp a.eval o).run P w = .ok (.enter f (args.map a.eval ++ caps)) w := by
  obtain ⟨fn, h1, h2, h3⟩ := hE
  simp only [execOp, ho, resolve, Deferred.ofValue, hf, invoke, callFunc, Sem.run_bind, Sem.run_pure, Result.andThen_ok, run_program, h1, h2, h3, Bool.false_eq_true, if_false, Array.empty_append]

/-- numbers, bools, strings, nil: what refers to no memory -/
def D.flat : D → Bool
  | .int _ _ | .bool _ | .str _ | .nil | .nilptr | .nilmap | .niliface => true
  | _ => false
def SV.scalar : SV → Bool
  | .d x => x.flat
  | .undef => true
  | .tuple xs => xs.all fun x => match x with | .d y => y.flat | .undef => true | _ => false
  | _ => false
theorem RepC.scalar {S S' : Nat → Prop} {w w' : World} {x : D} {v : Value} (h : RepC S w x v) (hs : x.flat = true) : RepC S' w' x v := by
  cases h <;> simp [D.flat] at hs <;> constructor; assumption
theorem RepV.scalar {S S' : Nat → Prop} {w w' : World} {β β' : Names} {x : SV} {v : Value} (h : RepV S w β x v) (hs : x.scalar = true) : RepV S' w' β' x v := by
  cases h with
  | undef => exact .undef _
  | d x v h => exact .d _ _ (h.scalar (by simpa [SV.scalar] using hs))
  | tuple cells vs h1 h2 =>
    refine .tuple cells vs h1 ?_
    intro j c v hc hv
    have h3 := h2 j c v hc hv
    simp only [SV.scalar] at hs
    have := List.all_eq_true.1 hs c (List.mem_of_getElem? hc)
    cases h3 with
    | d x v h => exact .d _ _ (h.scalar (by simpa using this))
    | undef => exact .undef _
    | _ => simp at this
  | _ => simp [SV.scalar] at hs

def bget (bx : Boxes) (k : Nat) : Option BoxC :=
  match bx with
  | [] => none
  | (j, c) :: r => if j = k then some c else bget r k
theorem mem_of_bget {k : Nat} {c : BoxC} : ∀ {bx : Boxes}, bget bx k = some c → (k, c) ∈ bx
  | [], h => by simp [bget] at h
  | (j, x) :: r, h => by
    simp only [bget] at h
    split at h
    · simp only [Option.some.injEq] at h; subst_vars; simp
    · simp [mem_of_bget h]

mutual
/-- an argument as the callee's contract takes it: nil reads as empty, a box of rows is lent -/
def coerce (bx : Boxes) : SV → Option SV
  | .d .nil => some (.d (.slice []))
  | .d .emp => some (.d (.slice []))
  | .d x => some (.d x)
  | .undef => some .undef
  | .dptr c off => some (.dptr c off)
  | .agg cs => match coerceL bx cs with
    | some l => if l.all SV.one then some (.agg l) else none
    | none => none
  | .tuple cs => match coerceL bx cs with
    | some l => some (.tuple l)
    | none => none
  | .clo f cs => match coerceL bx cs with
    | some l => some (.clo f l)
    | none => none
  | .acc k => match bget bx k with
    | some (.rows _ rs) => some (.d (.slice rs))
    | _ => none
  | .mp k => match bget bx k with
    | some (.map kvs) => some (.d (.map kvs))
    | _ => none
  | .box _ _ => none
  | .aptr _ _ _ => none
def coerceL (bx : Boxes) : List SV → Option (List SV)
  | [] => some []
  | c :: cs => match coerce bx c with
    | some x => match coerceL bx cs with
      | some l => some (x :: l)
      | none => none
    | none => none
end

theorem Inv.bd {C : Ctx} {S : Nat → Prop} {w : World} {β : Names} (h : Inv C S w β bx) : SExt S w (fun b => b < w.heap.size) w := ⟨fun b hb => h.Slt b hb, fun _ _ => rfl⟩

/-- what is lent: every block that there is -/
abbrev all (w : World) : Nat → Prop := fun b => b < w.heap.size

mutual
theorem coerce_rep {C : Ctx} {S S1 : Nat → Prop} {w : World} {β : Names} (hi : Inv C S w β bx) (he : SExt S w S1 w) (hS : ∀ k c, (k, c) ∈ bx → ∀ b, (β k).base = some b → S1 b) : ∀ {x y : SV} {v : Value}, coerce bx x = some y → RepV S w β x v → RepV S1 w β y v ∧ y.closed = true
  | .undef, y, v, h, hv => by simp only [coerce, Option.some.injEq] at h; subst h; exact ⟨.undef v, rfl⟩
  | .dptr c off, y, v, h, hv => by simp only [coerce, Option.some.injEq] at h; subst h; exact ⟨hv.ext he (fun _ _ => rfl), rfl⟩
  | .d x, y, v, h, hv => by
    have hv' : RepV S1 w β (.d x) v := hv.ext he (fun _ _ => rfl)
    cases x <;> simp only [coerce, Option.some.injEq] at h <;> subst h <;> first
      | exact ⟨hv', rfl⟩
      | exact ⟨.d _ _ hv'.inv_d.of_nil, rfl⟩
      | exact ⟨.d _ _ hv'.inv_d.of_emp, rfl⟩
  | .agg cs, y, v, h, hv => by
    simp only [coerce] at h
    cases hl : coerceL bx cs with
    | none => simp [hl] at h
    | some l =>
      simp only [hl] at h
      split at h
      · rename_i hone
        simp only [Option.some.injEq] at h; subst h
        cases hv with
        | agg _ vs h1 h2 h3 =>
          obtain ⟨g1, g2⟩ := coerceL_rep hi he hS hl ⟨h1, h3⟩
          exact ⟨RepV.agg_of g1 hone, by simp only [SV.closed]; exact g2⟩
      · simp at h
  | .tuple cs, y, v, h, hv => by
    simp only [coerce] at h
    cases hl : coerceL bx cs with
    | none => simp [hl] at h
    | some l =>
      simp only [hl, Option.some.injEq] at h; subst h
      cases hv with
      | tuple _ vs h1 h3 =>
        obtain ⟨g1, g2⟩ := coerceL_rep hi he hS hl ⟨h1, h3⟩
        exact ⟨.tuple _ _ g1.1 g1.2, by simp only [SV.closed]; exact g2⟩
  | .clo f cs, y, v, h, hv => by
    simp only [coerce] at h
    cases hl : coerceL bx cs with
    | none => simp [hl] at h
    | some l =>
      simp only [hl, Option.some.injEq] at h; subst h
      cases hv with
      | clo _ _ vs h1 h3 =>
        obtain ⟨g1, g2⟩ := coerceL_rep hi he hS hl ⟨h1, h3⟩
        exact ⟨.clo _ _ _ g1.1 g1.2, by simp only [SV.closed]; exact g2⟩
  | .acc k, y, v, h, hv => by
    simp only [coerce] at h
    cases hb : bget bx k with
    | none => simp [hb] at h
    | some c =>
      cases c <;> simp [hb] at h
      subst h
      cases hv with
      | acc _ =>
        refine ⟨.d _ _ ?_, rfl⟩
        exact (BoxOK.ext (hi.box k _ (mem_of_bget hb)) he (fun _ _ => rfl) (fun _ _ => rfl)).rows_slice fun b hb' => hS k _ (mem_of_bget hb) b hb'
  | .mp k, y, v, h, hv => by
    simp only [coerce] at h
    cases hb : bget bx k with
    | none => simp [hb] at h
    | some c =>
      cases c <;> simp [hb] at h
      subst h
      cases hv with
      | mp _ b hbase =>
        obtain ⟨b', es, clock, h1, h2, h3, h4⟩ := hi.box k _ (mem_of_bget hb)
        rw [hbase] at h1; cases h1
        refine ⟨.d _ _ (.map _ b es clock (hS k _ (mem_of_bget hb) b hbase) h2 h3 ?_ ?_), rfl⟩
        · intro i kv e hk he'; exact (h4 i kv e hk he').1.ext he
        · intro i kv e hk he'; exact (h4 i kv e hk he').2.ext he
  | .box _ _, y, v, h, hv => by simp [coerce] at h
  | .aptr _ _ _, y, v, h, hv => by simp [coerce] at h
theorem coerceL_rep {C : Ctx} {S S1 : Nat → Prop} {w : World} {β : Names} (hi : Inv C S w β bx) (he : SExt S w S1 w) (hS : ∀ k c, (k, c) ∈ bx → ∀ b, (β k).base = some b → S1 b) : ∀ {cs l : List SV} {vs : List Value}, coerceL bx cs = some l → RepL S w β cs vs → RepL S1 w β l vs ∧ SV.closedAll l = true
  | [], l, vs, h, hv => by
    simp only [coerceL, Option.some.injEq] at h; subst h
    exact ⟨⟨hv.1, by simp⟩, rfl⟩
  | c :: cs, l, vs, h, hv => by
    simp only [coerceL] at h
    cases hc : coerce bx c with
    | none => simp [hc] at h
    | some x =>
      cases hl : coerceL bx cs with
      | none => simp [hc, hl] at h
      | some m =>
        simp only [hc, hl, Option.some.injEq] at h; subst h
        cases vs with
        | nil => have := hv.1; simp at this
        | cons v vs =>
          obtain ⟨g1, g2⟩ := coerce_rep hi he hS hc (hv.2 0 c v rfl rfl)
          obtain ⟨q1, q2⟩ := coerceL_rep hi he hS hl ⟨by have := hv.1; simpa using this, fun j c v hc hv' => hv.2 (j + 1) c v (by simpa using hc) (by simpa using hv')⟩
          exact ⟨.cons g1 q1, by simp only [SV.closedAll, g2, q2, Bool.and_self]⟩
end


theorem RepL.evals {S : Nat → Prop} {w : World} {β : Names} {a : Act} : ∀ (xs : List Operand), (∀ x, x ∈ xs → RepV S w β (ρ x) (a.eval x)) → RepL S w β (xs.map ρ) (xs.map a.eval)
  | [], _ => .nil
  | x :: xs, ha => .cons (ha x (by simp)) (RepL.evals xs fun y hy => ha y (by simp [hy]))

/-- a frame that begins here, with nothing handed in -/
theorem Inv.begin {C : Ctx} {S S1 : Nat → Prop} {w : World} {β β1 : Names} (h : Inv C S w β bx) (h1 : ∀ b, S1 b → b < w.heap.size) : Inv ⟨w, S1, fun _ => False, fun _ _ => False⟩ S1 w β1 [] where
  S0sub _ hb := hb
  Snew _ hb := .inl hb
  Slt := h1
  kept _ _ _ := rfl
  os := rfl
  tape := rfl
  output := rfl
  size := Nat.le_refl _
  box k c hk := by simp at hk
  priv k c hk := by simp at hk
  inj k c k' c' hk := by simp at hk
  fix _ _ h := h.elim

/-- after the call: what it made is published, what it was lent is the frame's own again -/
theorem Inv.back {C : Ctx} {S S1 S' : Nat → Prop} {w w' : World} {β β' : Names} (h : Inv C S w β bx) (hk : Inv ⟨w, S1, fun _ => False, fun _ _ => False⟩ S' w' β' []) :
    Inv C (fun b => S b ∨ (S' b ∧ w.heap.size ≤ b)) w' β bx ∧ SExt S w (fun b => S b ∨ (S' b ∧ w.heap.size ≤ b)) w' := by
  refine h.grow (fun b hb => .inl hb) ?_ ?_ (fun b hb => hk.kept b hb (by simp)) hk.os hk.tape hk.output hk.size
  · intro b hb; rcases hb with hb | hb
    · exact .inl hb
    · exact .inr hb.2
  · intro b hb; rcases hb with hb | hb
    · have := h.Slt b hb; have := hk.size; simp at this; omega
    · exact hk.Slt b hb.1

theorem opT_call {f : FuncId} {fo : Operand} {args : Array Operand} {tys : Array TypeId} (ho : o.op = .call { callee := .value fo, args := args, argTypes := tys }) {caps args' : List SV} {r : SV}
    (hf : ρ fo = .clo f caps) (hargs : coerceL [] (args.toList.map ρ ++ caps) = some args') (hc : CallOK P f args' r) (hr : r.closed = true) : OpT P o ρ bx r bx [] := by
  intro C S w β a hi ha
  have hf1 := (ha fo (mo ho (by simp [Op.operands, Call.operands]))); rw [hf] at hf1
  generalize hfv : a.eval fo = v at hf1
  cases hf1 with
  | clo _ _ cs h1 h2 =>
    have hall : RepL S w β (args.toList.map ρ ++ caps) (args.toList.map a.eval ++ cs) := (RepL.evals _ fun x hx => ha x (mo ho (by simp [Op.operands, Call.operands]; simp at hx; exact .inr hx))).append ⟨h1, h2⟩
    have hin : Inv ⟨w, S, fun _ => False, fun _ _ => False⟩ S w β [] := hi.begin hi.Slt
    obtain ⟨g1, g2⟩ := coerceL_rep hin (SExt.refl S w) (by simp) hargs hall
    have hcall := hc.2 ⟨w, S, fun _ => False, fun _ _ => False⟩ β _ hin g1
    unfold Oper.wp
    rw [run_enter hc.1 ho hfv, Oper.upon_enter]
    have hargsEq : args.map a.eval ++ (⟨cs⟩ : Array Value) = ⟨args.toList.map a.eval ++ cs⟩ := by apply Array.ext'; simp
    rw [hargsEq]
    refine hcall.mono ?_
    rintro e w' ⟨v, S', β', rfl, hk, hv⟩
    obtain ⟨q1, q2⟩ := hi.back hk
    have e' : SExt S' w' (fun b => S b ∨ (S' b ∧ w.heap.size ≤ b)) w' := ⟨fun b hb => by
      rcases hk.Snew b hb with h | h | h
      · exact .inl h
      · exact h.elim
      · exact .inr ⟨hb, h⟩, fun _ _ => rfl⟩
    exact ⟨v, _, β, rfl, q1, q2, (hv.ext e' (fun _ _ => rfl)).closed hr, fun _ _ => rfl⟩

theorem opT_callLend {f : FuncId} {fo : Operand} {args : Array Operand} {tys : Array TypeId} (ho : o.op = .call { callee := .value fo, args := args, argTypes := tys }) {caps args' : List SV} {r : SV}
    (hf : ρ fo = .clo f caps) (hargs : coerceL bx (args.toList.map ρ ++ caps) = some args') (hc : CallOK P f args' r) (hr : r.scalar = true) : OpT P o ρ bx r bx [] := by
  intro C S w β a hi ha
  have hf1 := (ha fo (mo ho (by simp [Op.operands, Call.operands]))); rw [hf] at hf1
  generalize hfv : a.eval fo = v at hf1
  cases hf1 with
  | clo _ _ cs h1 h2 =>
    have hall : RepL S w β (args.toList.map ρ ++ caps) (args.toList.map a.eval ++ cs) := (RepL.evals _ fun x hx => ha x (mo ho (by simp [Op.operands, Call.operands]; simp at hx; exact .inr hx))).append ⟨h1, h2⟩
    have hin : Inv ⟨w, all w, fun _ => False, fun _ _ => False⟩ (all w) w β [] := hi.begin (fun _ hb => hb)
    obtain ⟨g1, g2⟩ := coerceL_rep hi hi.bd (fun k c hk b hb => (hi.priv k c hk b hb).2.1) hargs hall
    have hcall := hc.2 ⟨w, all w, fun _ => False, fun _ _ => False⟩ β _ hin g1
    unfold Oper.wp
    rw [run_enter hc.1 ho hfv, Oper.upon_enter]
    have hargsEq : args.map a.eval ++ (⟨cs⟩ : Array Value) = ⟨args.toList.map a.eval ++ cs⟩ := by apply Array.ext'; simp
    rw [hargsEq]
    refine hcall.mono ?_
    rintro e w' ⟨v, S', β', rfl, hk, hv⟩
    obtain ⟨q1, q2⟩ := hi.back hk
    exact ⟨v, _, β, rfl, q1, q2, hv.scalar hr, fun _ _ => rfl⟩

/-- a call that hands back a slice of its own -/
theorem opT_callAcc {f : FuncId} {fo : Operand} {args : Array Operand} {tys : Array TypeId} {k : Nat} (hkf : k ≤ 999999) (ho : o.op = .call { callee := .value fo, args := args, argTypes := tys }) {caps args' : List SV} {q sz : Nat} {rows : List (List D)}
    (hf : ρ fo = .clo f caps) (hargs : coerceL [] (args.toList.map ρ ++ caps) = some args') (hc : CallB P f args' [] (.acc q) [(q, .rows sz rows)]) :
    OpT P o ρ bx (.acc k) ((k, .rows sz rows) :: bpurge k (berase k bx)) [k] := by
  intro C S w β a hi ha
  have hf1 := (ha fo (mo ho (by simp [Op.operands, Call.operands]))); rw [hf] at hf1
  generalize hfv : a.eval fo = v at hf1
  cases hf1 with
  | clo _ _ cs h1 h2 =>
    have hall : RepL S w β (args.toList.map ρ ++ caps) (args.toList.map a.eval ++ cs) := (RepL.evals _ fun x hx => ha x (mo ho (by simp [Op.operands, Call.operands]; simp at hx; exact .inr hx))).append ⟨h1, h2⟩
    have hin : Inv ⟨w, S, fun _ => False, fun _ _ => False⟩ S w β [] := hi.begin hi.Slt
    obtain ⟨g1, g2⟩ := coerceL_rep hin (SExt.refl S w) (by simp) hargs hall
    have hcall := hc.2 ⟨w, S, fun _ => False, fun _ _ => False⟩ β _ hin g1
    unfold Oper.wp
    rw [run_enter hc.1 ho hfv, Oper.upon_enter]
    have hargsEq : args.map a.eval ++ (⟨cs⟩ : Array Value) = ⟨args.toList.map a.eval ++ cs⟩ := by apply Array.ext'; simp
    rw [hargsEq]
    refine hcall.mono ?_
    rintro e w' ⟨v, S', β', rfl, hk, hv⟩
    have hSn : ∀ b, S' b → S b ∨ w.heap.size ≤ b := fun b hb => by
      rcases hk.Snew b hb with h | h | h
      · exact .inl h
      · exact h.elim
      · exact .inr h
    obtain ⟨p1, p2⟩ := hi.setNewG (k := k) (w' := w') (S' := S') (c := .rows sz rows) (β' q) hkf (fun b hb => hk.S0sub b hb) hSn hk.Slt (by
        intro b hb
        obtain ⟨g1, g2, g3⟩ := hk.priv q (.rows sz rows) (by simp) b hb
        exact ⟨g1, g2, .inl (g3.resolve_left (by simp))⟩)
      (fun b hb _ => hk.kept b hb (by simp)) hk.os hk.tape hk.output hk.size (fun _ => BoxOK.ext (c := .rows sz rows) (hk.box q (.rows sz rows) (by simp)) (SExt.refl _ _) (fun _ _ => rfl) (by simp [BoxC.has]))
    refine ⟨v, _, _, rfl, p1, p2, ?_, fun j hj => upd_ne (by simpa using hj)⟩
    have hv' : v = sval (β' q) := by cases hv; rfl
    have := RepV.acc (S := S') (w := w') (β := upd β k (β' q)) k
    rw [upd_same] at this
    rw [hv']; exact this

end Go.Abs
