/- The operations on abstract values: those that compute. Own framework, part C. -/
import Derived.Test.YtibfepggadjjgaaAbsB
import Derived.Orders
import Derived.Laws.Slices
import Derived.Laws.Strings
import Derived.Laws.Small
namespace Go.Abs
open Go

abbrev Rho := Operand → SV

/-- what one operation does, said of abstract values: a triple -/
def OpT (P : Program) (o : Oper) (ρ : Rho) (bx : Boxes) (r : SV) (bx' : Boxes) (pg : List Nat) : Prop :=
  ∀ (C : Ctx) (S : Nat → Prop) (w : World) (β : Names) (a : Act), Inv C S w β bx → (∀ x, x ∈ o.op.operands → RepV S w β (ρ x) (a.eval x)) →
    o.wp P a w (fun a' w' => ∃ v S' β', a' = a.put o.dst v ∧ Inv C S' w' β' bx' ∧ SExt S w S' w' ∧ RepV S' w' β' r v ∧ (∀ k, k ∉ pg → β' k = β k)) (fun _ _ _ => False)

theorem mo {o : Oper} {op : Op} {x : Operand} (h : o.op = op) (m : x ∈ op.operands) : x ∈ o.op.operands := h ▸ m

variable {P : Program} {o : Oper} {ρ : Rho} {bx : Boxes}

theorem OpT.of_value {r : SV} (h : ∀ (C : Ctx) (S : Nat → Prop) (w : World) (β : Names) (a : Act), Inv C S w β bx → (∀ x, x ∈ o.op.operands → RepV S w β (ρ x) (a.eval x)) →
    ∃ v, (execOp a.eval o).run P w = .ok (.value v) w ∧ RepV S w β r v) : OpT P o ρ bx r bx [] := by
  intro C S w β a hi ha
  obtain ⟨v, hv, hr⟩ := h C S w β a hi ha
  unfold Oper.wp
  rw [hv]
  exact ⟨v, S, β, rfl, hi, SExt.refl S w, hr, fun _ _ => rfl⟩

theorem opT_move {x : Operand} (ho : o.op = .move x) : OpT P o ρ bx (ρ x) bx [] :=
  .of_value fun _ _ _ _ a _ ha => ⟨a.eval x, by simp [execOp, ho], (ha x (mo ho (by simp [Op.operands, Call.operands])))⟩
theorem opT_assign {x : Operand} (ho : o.op = .assign x) : OpT P o ρ bx (ρ x) bx [] :=
  .of_value fun _ _ _ _ a _ ha => ⟨a.eval x, by simp [execOp, ho], (ha x (mo ho (by simp [Op.operands, Call.operands])))⟩

theorem RepV.inv_d {S : Nat → Prop} {w : World} {β : Names} {x : D} {v : Value} (h : RepV S w β (.d x) v) : RepC S w x v := by cases h; assumption
theorem RepV.inv_bool {S : Nat → Prop} {w : World} {β : Names} {b : Bool} {v : Value} (h : RepV S w β (.d (.bool b)) v) : v = .bool b := by cases h with | d _ _ h => cases h; rfl
theorem RepV.inv_int {S : Nat → Prop} {w : World} {β : Names} {k : IntKind} {n : Int} {v : Value} (h : RepV S w β (.d (.int k n)) v) : v = .int k n := by cases h with | d _ _ h => cases h; rfl
theorem RepV.inv_str {S : Nat → Prop} {w : World} {β : Names} {s : Str} {v : Value} (h : RepV S w β (.d (.str s)) v) : v = .string (mkStr s) ∧ s.length ≤ lim := by cases h with | d _ _ h => cases h; exact ⟨rfl, by assumption⟩
theorem RepV.bool {S : Nat → Prop} {w : World} {β : Names} (b : Bool) : RepV S w β (.d (.bool b)) (.bool b) := .d _ _ (.bool b)
theorem RepV.int {S : Nat → Prop} {w : World} {β : Names} (k : IntKind) (n : Int) : RepV S w β (.d (.int k n)) (.int k n) := .d _ _ (.int k n)

theorem opT_pick {c x y : Operand} (ho : o.op = .pick c x y) {t : Bool} (hc : ρ c = .d (.bool t)) : OpT P o ρ bx (if t then ρ x else ρ y) bx [] :=
  .of_value fun _ _ _ _ a _ ha => by
    have h := (ha c (mo ho (by simp [Op.operands, Call.operands])))
    rw [hc] at h
    have h := h.inv_bool
    refine ⟨if t then a.eval x else a.eval y, ?_, ?_⟩
    · cases t <;> simp [execOp, ho, h, asBool]
    · cases t
      · simpa using (ha y (mo ho (by simp [Op.operands, Call.operands])))
      · simpa using (ha x (mo ho (by simp [Op.operands, Call.operands])))

/-! numbers -/
def cmpInt (op : BinOp) (x y : Int) : Option Bool :=
  match op with
  | .eql => some (decide (x = y))
  | .neq => some (decide (x ≠ y))
  | .lss => some (decide (x < y))
  | .leq => some (decide (x ≤ y))
  | .gtr => some (decide (y < x))
  | .geq => some (decide (y ≤ x))
  | _ => none

def arInt (op : BinOp) (k : IntKind) (x y : Int) : Option Int :=
  match op with
  | .add => some (k.wrap (x + y))
  | .sub => some (k.wrap (x - y))
  | .mul => some (k.wrap (x * y))
  | _ => none

theorem eqGuard_int (op : BinOp) (t : TypeId) (x y : Operand) (k k' : IntKind) (m n : Int) (w : World) : (eqGuard op t x y (.int k m) (.int k' n)).run P w = .ok () w := by
  unfold eqGuard; cases op <;> simp
theorem eqGuard_str (op : BinOp) (t : TypeId) (x y : Operand) (m n : ByteArray) (w : World) : (eqGuard op t x y (.string m) (.string n)).run P w = .ok () w := by
  unfold eqGuard; cases op <;> simp
theorem eqGuard_bool (op : BinOp) (t : TypeId) (x y : Operand) (m n : Bool) (w : World) : (eqGuard op t x y (.bool m) (.bool n)).run P w = .ok () w := by
  unfold eqGuard; cases op <;> simp
theorem eqGuard_ptr (op : BinOp) (t : TypeId) (x y : Operand) (m : Option Addr) (n : Value) (w : World) : (eqGuard op t x y (.pointer m) n).run P w = .ok () w := by
  unfold eqGuard; cases op <;> simp
theorem eqGuard_slice (op : BinOp) (t : TypeId) (x y : Operand) (m : Option Addr) (l c : Nat) (n : Value) (w : World) : (eqGuard op t x y (.slice m l c) n).run P w = .ok () w := by
  unfold eqGuard; cases op <;> simp

theorem opT_cmpInt {op : BinOp} {t u : TypeId} {x y : Operand} (ho : o.op = .binOp op t x y u) {k : IntKind} {m n : Int} {b : Bool}
    (hx : ρ x = .d (.int k m)) (hy : ρ y = .d (.int k n)) (hb : cmpInt op m n = some b) : OpT P o ρ bx (.d (.bool b)) bx [] :=
  .of_value fun _ _ w _ a _ ha => by
    have h1 := (ha x (mo ho (by simp [Op.operands, Call.operands]))); rw [hx] at h1; have h1 := h1.inv_int
    have h2 := (ha y (mo ho (by simp [Op.operands, Call.operands]))); rw [hy] at h2; have h2 := h2.inv_int
    refine ⟨.bool b, ?_, .bool b⟩
    simp only [execOp, ho, Sem.run_bind, Sem.run_map, h1, h2, eqGuard_int, Result.andThen_ok]
    cases op <;> first
      | (simp only [cmpInt, reduceCtorEq] at hb; done)
      | (simp only [cmpInt, Option.some.injEq] at hb; subst hb; simp only [binOp, Op.intCmp, ne_eq, not_true_eq_false, if_false, Sem.run_pure, Result.andThen_ok]; try (congr 3 <;> (rw [Bool.eq_iff_iff]; simp)))

theorem opT_arInt {op : BinOp} {t u : TypeId} {x y : Operand} (ho : o.op = .binOp op t x y u) {k : IntKind} {m n b : Int}
    (hx : ρ x = .d (.int k m)) (hy : ρ y = .d (.int k n)) (hb : arInt op k m n = some b) : OpT P o ρ bx (.d (.int k b)) bx [] :=
  .of_value fun _ _ w _ a _ ha => by
    have h1 := (ha x (mo ho (by simp [Op.operands, Call.operands]))); rw [hx] at h1; have h1 := h1.inv_int
    have h2 := (ha y (mo ho (by simp [Op.operands, Call.operands]))); rw [hy] at h2; have h2 := h2.inv_int
    refine ⟨.int k b, ?_, .int k b⟩
    simp only [execOp, ho, Sem.run_bind, Sem.run_map, h1, h2, eqGuard_int, Result.andThen_ok]
    cases op <;> simp [arInt] at hb <;> subst hb <;> simp [binOp, Op.intArith]

/-- a quotient, a rest by a number that is not 0 -/
theorem opT_quo {t u : TypeId} {x y : Operand} (ho : o.op = .binOp .quo t x y u) {k : IntKind} {m n : Int}
    (hx : ρ x = .d (.int k m)) (hy : ρ y = .d (.int k n)) (hn : n ≠ 0) : OpT P o ρ bx (.d (.int k (k.wrap (m.tdiv n)))) bx [] :=
  .of_value fun _ _ w _ a _ ha => by
    have h1 := (ha x (mo ho (by simp [Op.operands, Call.operands]))); rw [hx] at h1; have h1 := h1.inv_int
    have h2 := (ha y (mo ho (by simp [Op.operands, Call.operands]))); rw [hy] at h2; have h2 := h2.inv_int
    refine ⟨_, ?_, .int k _⟩
    simp [execOp, ho, h1, h2, eqGuard_int, binOp, Op.intDiv, hn]
theorem opT_rem {t u : TypeId} {x y : Operand} (ho : o.op = .binOp .rem t x y u) {k : IntKind} {m n : Int}
    (hx : ρ x = .d (.int k m)) (hy : ρ y = .d (.int k n)) (hn : n ≠ 0) : OpT P o ρ bx (.d (.int k (m.tmod n))) bx [] :=
  .of_value fun _ _ w _ a _ ha => by
    have h1 := (ha x (mo ho (by simp [Op.operands, Call.operands]))); rw [hx] at h1; have h1 := h1.inv_int
    have h2 := (ha y (mo ho (by simp [Op.operands, Call.operands]))); rw [hy] at h2; have h2 := h2.inv_int
    refine ⟨_, ?_, .int k _⟩
    simp [execOp, ho, h1, h2, eqGuard_int, binOp, Op.intDiv, hn]

/-! strings -/
def cmpStr (op : BinOp) (x y : Str) : Option Bool :=
  match op with
  | .eql => some (decide (x = y))
  | .neq => some (decide (x ≠ y))
  | .lss => some (Op.bytesLess x y)
  | .gtr => some (Op.bytesLess y x)
  | _ => none

theorem mkStr_toList (s : Str) : (mkStr s).toList = s := by simp [mkStr]

theorem bytesLess_or_eq : ∀ (x y : Str), (Op.bytesLess x y || x == y) = !Op.bytesLess y x
  | [], [] => rfl
  | [], _ :: _ => by simp [Op.bytesLess]
  | _ :: _, [] => by simp [Op.bytesLess]
  | a :: x, b :: y => by
    have ih := bytesLess_or_eq x y
    simp only [Op.bytesLess]
    by_cases h1 : a < b
    · have h2 : ¬ b < a := by rw [UInt8.lt_iff_toNat_lt] at *; omega
      have h3 : ¬ (b = a) := by intro h; subst h; exact h2 h1
      simp [h1, h2, h3]
    · by_cases h2 : b < a
      · have h3 : ¬ (a = b) := by intro h; subst h; exact h1 h2
        simp [h1, h2, h3]
      · have h3 : a = b := by
          apply UInt8.toNat_inj.1
          rw [UInt8.lt_iff_toNat_lt] at h1 h2; omega
        subst h3
        simp [h1]
        simpa [Bool.beq_eq_decide_eq] using ih

theorem opT_cmpStr {op : BinOp} {t u : TypeId} {x y : Operand} (ho : o.op = .binOp op t x y u) {m n : Str} {b : Bool}
    (hx : ρ x = .d (.str m)) (hy : ρ y = .d (.str n)) (hb : cmpStr op m n = some b) : OpT P o ρ bx (.d (.bool b)) bx [] :=
  .of_value fun _ _ w _ a _ ha => by
    have h1 := (ha x (mo ho (by simp [Op.operands, Call.operands]))); rw [hx] at h1; have h1 := h1.inv_str.1
    have h2 := (ha y (mo ho (by simp [Op.operands, Call.operands]))); rw [hy] at h2; have h2 := h2.inv_str.1
    refine ⟨.bool b, ?_, .bool b⟩
    have e := bytesLess_or_eq m n
    simp only [execOp, ho, Sem.run_bind, Sem.run_map, h1, h2, eqGuard_str, Result.andThen_ok]
    cases op <;> first
      | (simp only [cmpStr, reduceCtorEq] at hb; done)
      | (simp only [cmpStr, Option.some.injEq] at hb; subst hb; simp only [binOp, Op.stringOp, mkStr_toList, e, Bool.not_not, Sem.run_pure, Result.andThen_ok]; try (congr 3 <;> (rw [Bool.eq_iff_iff]; simp)))

theorem mkStr_append (x y : Str) : mkStr x ++ mkStr y = mkStr (x ++ y) := by
  apply ByteArray.ext; simp [mkStr]

theorem opT_addStr {t u : TypeId} {x y : Operand} (ho : o.op = .binOp .add t x y u) {m n : Str}
    (hx : ρ x = .d (.str m)) (hy : ρ y = .d (.str n)) (hb : m.length + n.length ≤ lim) : OpT P o ρ bx (.d (.str (m ++ n))) bx [] :=
  .of_value fun _ _ w _ a _ ha => by
    have h1 := (ha x (mo ho (by simp [Op.operands, Call.operands]))); rw [hx] at h1; have h1 := h1.inv_str.1
    have h2 := (ha y (mo ho (by simp [Op.operands, Call.operands]))); rw [hy] at h2; have h2 := h2.inv_str.1
    refine ⟨.string (mkStr (m ++ n)), ?_, .d _ _ (.str _ (by simpa using hb))⟩
    have hmax : IntKind.i64.max = 9223372036854775807 := by decide
    have hle : ¬ (IntKind.i64.max < (m.length : Int) + n.length) := by rw [hmax]; unfold lim at hb; omega
    simp only [execOp, ho, Sem.run_bind, Sem.run_map, h1, h2, eqGuard_str, Result.andThen_ok, binOp, Op.stringOp, mkStr_size, mkStr_append]
    rw [if_neg (by simpa using hle)]
    rfl

/-! bools -/
theorem opT_not {t : TypeId} {x : Operand} (ho : o.op = .unOp .not t x) {b : Bool} (hx : ρ x = .d (.bool b)) : OpT P o ρ bx (.d (.bool (!b))) bx [] :=
  .of_value fun _ _ w _ a _ ha => by
    have h1 := (ha x (mo ho (by simp [Op.operands, Call.operands]))); rw [hx] at h1; have h1 := h1.inv_bool
    exact ⟨.bool (!b), by simp [execOp, ho, h1, Op.unary], .bool _⟩
theorem opT_neg {t : TypeId} {x : Operand} (ho : o.op = .unOp .neg t x) {k : IntKind} {n : Int} (hx : ρ x = .d (.int k n)) : OpT P o ρ bx (.d (.int k (k.wrap (0 - n)))) bx [] :=
  .of_value fun _ _ w _ a _ ha => by
    have h1 := (ha x (mo ho (by simp [Op.operands, Call.operands]))); rw [hx] at h1; have h1 := h1.inv_int
    exact ⟨.int k (k.wrap (0 - n)), by simp [execOp, ho, h1, Op.unary, Op.intArith], .int _ _⟩

def cmpBool (op : BinOp) (x y : Bool) : Option Bool :=
  match op with
  | .eql => some (x == y)
  | .neq => some (!(x == y))
  | _ => none
theorem opT_cmpBool {op : BinOp} {t u : TypeId} {x y : Operand} (ho : o.op = .binOp op t x y u) (ht : P.underlying t = some .bool) {m n : Bool} {b : Bool}
    (hx : ρ x = .d (.bool m)) (hy : ρ y = .d (.bool n)) (hb : cmpBool op m n = some b) : OpT P o ρ bx (.d (.bool b)) bx [] :=
  .of_value fun _ _ w _ a _ ha => by
    have h1 := (ha x (mo ho (by simp [Op.operands, Call.operands]))); rw [hx] at h1; have h1 := h1.inv_bool
    have h2 := (ha y (mo ho (by simp [Op.operands, Call.operands]))); rw [hy] at h2; have h2 := h2.inv_bool
    refine ⟨.bool b, ?_, .bool b⟩
    simp only [execOp, ho, Sem.run_bind, Sem.run_map, h1, h2, eqGuard_bool, Result.andThen_ok]
    cases op <;> first
      | (simp only [cmpBool, reduceCtorEq] at hb; done)
      | (simp only [cmpBool, Option.some.injEq] at hb; subst hb; first | (rw [run_eql_bool _ _ _ _ ht]; rfl) | (rw [run_neq_bool _ _ _ _ ht]; rfl))

/-- a number of another kind -/
theorem opT_convInt {src dst : TypeId} {x : Operand} (ho : o.op = .convert src dst x) {k k' j : IntKind} {n : Int}
    (hs : P.underlying src = some (.int j)) (hd : P.underlying dst = some (.int k')) (hx : ρ x = .d (.int k n)) : OpT P o ρ bx (.d (.int k' (k'.wrap n))) bx [] :=
  .of_value fun _ _ w _ a _ ha => by
    have h1 := (ha x (mo ho (by simp [Op.operands, Call.operands]))); rw [hx] at h1; have h1 := h1.inv_int
    refine ⟨.int k' (k'.wrap n), ?_, .int _ _⟩
    simp [execOp, ho, h1, convert, underlying, hs, hd, Conv.intToInt]
/-- string to string -/
theorem opT_convStr {src dst : TypeId} {x : Operand} (ho : o.op = .convert src dst x) {s : Str}
    (hs : P.underlying src = some .string) (hd : P.underlying dst = some .string) (hx : ρ x = .d (.str s)) : OpT P o ρ bx (.d (.str s)) bx [] :=
  .of_value fun _ _ w _ a _ ha => by
    have h0 := (ha x (mo ho (by simp [Op.operands, Call.operands]))); rw [hx] at h0; have h1 := h0.inv_str.1
    refine ⟨.string (mkStr s), ?_, by rw [← h1]; exact h0⟩
    simp [execOp, ho, h1, convert, underlying, hs, hd]

/-! extract -/
theorem opT_extract {x : Operand} {i : Nat} (ho : o.op = .extract x i) {xs : List SV} {r : SV} (hx : ρ x = .tuple xs) (hr : xs[i]? = some r) : OpT P o ρ bx r bx [] :=
  .of_value fun _ _ w _ a _ ha => by
    have h1 := (ha x (mo ho (by simp [Op.operands, Call.operands]))); rw [hx] at h1
    generalize hv : a.eval x = v at h1
    cases h1 with
    | tuple _ vs hl h =>
      have hi : i < vs.length := by have := (List.getElem?_eq_some_iff.1 hr).1; omega
      refine ⟨vs[i], ?_, h i r _ hr (List.getElem?_eq_getElem hi)⟩
      simp [execOp, ho, hv, Instr.extract, hi]

/-- an interface value is made -/
def SV.toD : SV → Option D
  | .d x => some x
  | _ => none
theorem opT_makeInterface {t : TypeId} {x : Operand} (ho : o.op = .makeInterface t x) {y : D} (hx : ρ x = .d y) {desc : TypeDesc} (ht : P.underlying t = some desc)
    (hn : (match desc with | .interface _ => false | _ => true) = true) : OpT P o ρ bx (.d (.iface t y)) bx [] :=
  .of_value fun _ _ w _ a _ ha => by
    have h1 := (ha x (mo ho (by simp [Op.operands, Call.operands]))); rw [hx] at h1
    refine ⟨.iface t (a.eval x), ?_, .d _ _ (.iface t y _ h1.inv_d)⟩
    cases desc <;> simp at hn <;> simp [execOp, ho, Instr.makeInterface, underlying, ht]

/-- a struct into an interface -/
theorem repC_agg_of {S : Nat → Prop} {w : World} {β : Names} {ds : List D} {v : Value} (h : RepV S w β (.agg (ds.map SV.d)) v) : RepC S w (.agg ds) v := by
  generalize hc : ds.map SV.d = cs at h
  cases h with
  | agg _ vs hl h1 h2 =>
    subst hc
    refine .agg ds vs (by simpa using hl) ?_ ?_
    · intro d hd
      have := h1 (.d d) (List.mem_map.2 ⟨d, hd, rfl⟩)
      simpa [SV.one] using this
    · intro j d v hd hv
      exact (h2 j (.d d) v (by simp [hd]) hv).inv_d
theorem repV_agg_of {S : Nat → Prop} {w : World} {β : Names} {ds : List D} {v : Value} (h : RepC S w (.agg ds) v) : RepV S w β (.agg (ds.map SV.d)) v := by
  cases h with
  | agg _ vs hl h1 h2 =>
    refine .agg _ vs (by simpa using hl) ?_ ?_
    · intro c hc
      obtain ⟨d, hd, rfl⟩ := List.mem_map.1 hc
      exact h1 d hd
    · intro j c v hc hv
      obtain ⟨d, hd, rfl⟩ := by simpa using hc
      exact .d _ _ (h2 j d v hd hv)
theorem opT_makeInterfaceAgg {t : TypeId} {x : Operand} (ho : o.op = .makeInterface t x) {ys : List D} (hx : ρ x = .agg (ys.map SV.d)) {desc : TypeDesc} (ht : P.underlying t = some desc)
    (hn : (match desc with | .interface _ => false | _ => true) = true) : OpT P o ρ bx (.d (.iface t (.agg ys))) bx [] :=
  .of_value fun _ _ w _ a _ ha => by
    have h1 := (ha x (mo ho (by simp [Op.operands, Call.operands]))); rw [hx] at h1
    refine ⟨.iface t (a.eval x), ?_, .d _ _ (.iface t _ _ (repC_agg_of h1))⟩
    cases desc <;> simp at hn <;> simp [execOp, ho, Instr.makeInterface, underlying, ht]

end Go.Abs
