/- Abstract values with private boxes; the invariant of a frame. Own framework, part B. -/
import Derived.Test.YtibfepggadjjgaaAbsA
namespace Go.Abs
open Go

structure BI where
  base : Option Nat
  off : Nat := 0
  len : Nat := 0
  cap : Nat := 0
  sz : Nat := 0

inductive SV where
  | undef
  | d (x : D)
  | agg (cells : List SV)
  | tuple (xs : List SV)
  | box (k : Nat) (off : Nat)
  | dptr (cells : List D) (off : Nat)
  | acc (k : Nat)
  | aptr (k i off : Nat)
  | mp (k : Nat)
  | clo (f : FuncId) (caps : List SV)

instance : Inhabited SV := ⟨.undef⟩

def SV.one : SV → Bool
  | .undef | .agg _ | .tuple _ => false
  | .d x => x.one
  | _ => true

abbrev Names := Nat → BI

inductive RepV (S : Nat → Prop) (w : World) (β : Names) : SV → Value → Prop where
  | undef (v : Value) : RepV S w β .undef v
  | d (x : D) (v : Value) : RepC S w x v → RepV S w β (.d x) v
  | agg (cells : List SV) (vs : List Value) : vs.length = cells.length → (∀ c, c ∈ cells → c.one = true) →
      (∀ (j : Nat) (c : SV) (v : Value), cells[j]? = some c → vs[j]? = some v → RepV S w β c v) → RepV S w β (.agg cells) (.agg ⟨vs⟩)
  | tuple (cells : List SV) (vs : List Value) : vs.length = cells.length →
      (∀ (j : Nat) (c : SV) (v : Value), cells[j]? = some c → vs[j]? = some v → RepV S w β c v) → RepV S w β (.tuple cells) (.tuple ⟨vs⟩)
  | box (k off b : Nat) : (β k).base = some b → RepV S w β (.box k off) (.pointer (some ⟨b, off, none⟩))
  | dptr (cells : List D) (off b base : Nat) : S b → (∀ d, d ∈ cells → d.one = true) → (∀ j, j < cells.length → ∃ v, w.cell? ⟨b, base + j, none⟩ = some v) →
      (∀ (j : Nat) (d : D) (v : Value), cells[j]? = some d → w.cell? ⟨b, base + j, none⟩ = some v → RepC S w d v) →
      RepV S w β (.dptr cells off) (.pointer (some ⟨b, base + off, none⟩))
  | acc (k : Nat) : RepV S w β (.acc k) (.slice ((β k).base.map fun b => ⟨b, (β k).off * (β k).sz, none⟩) (β k).len (β k).cap)
  | aptr (k i off b : Nat) : (β k).base = some b → RepV S w β (.aptr k i off) (.pointer (some ⟨b, ((β k).off + i) * (β k).sz + off, none⟩))
  | mp (k b : Nat) : (β k).base = some b → RepV S w β (.mp k) (.map (some b))
  | clo (f : FuncId) (caps : List SV) (vs : List Value) : vs.length = caps.length →
      (∀ (j : Nat) (c : SV) (v : Value), caps[j]? = some c → vs[j]? = some v → RepV S w β c v) → RepV S w β (.clo f caps) (.func (.func f) #[] ⟨vs⟩)

mutual
/-- does it lead to the box k? -/
def SV.has (k : Nat) : SV → Bool
  | .undef | .d _ | .dptr _ _ => false
  | .agg cs => SV.hasAny k cs
  | .tuple cs => SV.hasAny k cs
  | .clo _ cs => SV.hasAny k cs
  | .box j _ => j == k
  | .acc j => j == k
  | .aptr j _ _ => j == k
  | .mp j => j == k
def SV.hasAny (k : Nat) : List SV → Bool
  | [] => false
  | c :: cs => c.has k || SV.hasAny k cs
end

mutual
/-- it leads to no box -/
def SV.closed : SV → Bool
  | .undef | .d _ | .dptr _ _ => true
  | .agg cs => SV.closedAll cs
  | .tuple cs => SV.closedAll cs
  | .clo _ cs => SV.closedAll cs
  | .box _ _ | .acc _ | .aptr _ _ _ | .mp _ => false
def SV.closedAll : List SV → Bool
  | [] => true
  | c :: cs => c.closed && SV.closedAll cs
end

theorem SV.hasAny_false {k : Nat} : ∀ {cs : List SV}, SV.hasAny k cs = false → ∀ (j : Nat) (c : SV), cs[j]? = some c → c.has k = false
  | [], _, j, c, h => by simp at h
  | c :: cs, h, j, x, hx => by
    simp only [SV.hasAny, Bool.or_eq_false_iff] at h
    cases j with
    | zero => simp at hx; subst hx; exact h.1
    | succ j => simp at hx; exact SV.hasAny_false h.2 j x hx

theorem SV.closedAll_true : ∀ {cs : List SV}, SV.closedAll cs = true → ∀ (j : Nat) (c : SV), cs[j]? = some c → c.closed = true
  | [], _, j, c, h => by simp at h
  | c :: cs, h, j, x, hx => by
    simp only [SV.closedAll, Bool.and_eq_true] at h
    cases j with
    | zero => simp at hx; subst hx; exact h.1
    | succ j => simp at hx; exact SV.closedAll_true h.2 j x hx

theorem RepV.ext {S S' : Nat → Prop} {w w' : World} {β β' : Names} {x : SV} {v : Value} (h : RepV S w β x v) (e : SExt S w S' w')
    (hb : ∀ k, x.has k = true → β' k = β k) : RepV S' w' β' x v := by
  induction h with
  | undef v => exact .undef v
  | d x v h => exact .d x v (h.ext e)
  | agg cells vs h1 h2 _ ih =>
    refine .agg cells vs h1 h2 fun j c v hc hv => ih j c v hc hv fun k hk => hb k ?_
    cases hh : SV.hasAny k cells with
    | false => rw [SV.hasAny_false hh j c hc] at hk; simp at hk
    | true => simp [SV.has, hh]
  | tuple cells vs h1 _ ih =>
    refine .tuple cells vs h1 fun j c v hc hv => ih j c v hc hv fun k hk => hb k ?_
    cases hh : SV.hasAny k cells with
    | false => rw [SV.hasAny_false hh j c hc] at hk; simp at hk
    | true => simp [SV.has, hh]
  | box k off b h => exact .box k off b (by rw [hb k (by simp [SV.has])]; exact h)
  | dptr cells off b base hs h1 h2 h3 =>
    refine .dptr cells off b base (e.sub b hs) h1 ?_ ?_
    · intro j hj; rw [e.cell hs]; exact h2 j hj
    · intro j d v hd hv; rw [e.cell hs] at hv; exact (h3 j d v hd hv).ext e
  | acc k => have := hb k (by simp [SV.has]); rw [← this]; exact .acc k
  | aptr k i off b h => have := hb k (by simp [SV.has]); rw [← this]; exact .aptr k i off b (by rw [this]; exact h)
  | mp k b h => exact .mp k b (by rw [hb k (by simp [SV.has])]; exact h)
  | clo f cells vs h1 _ ih =>
    refine .clo f cells vs h1 fun j c v hc hv => ih j c v hc hv fun k hk => hb k ?_
    cases hh : SV.hasAny k cells with
    | false => rw [SV.hasAny_false hh j c hc] at hk; simp at hk
    | true => simp [SV.has, hh]

mutual
theorem SV.not_has_of_closed : ∀ {x : SV} (k : Nat), x.closed = true → x.has k = false
  | .undef, _, _ => rfl
  | .d _, _, _ => rfl
  | .dptr _ _, _, _ => rfl
  | .agg cs, k, h => by simp only [SV.closed] at h; simp only [SV.has]; exact SV.not_hasAny_of_closed k h
  | .tuple cs, k, h => by simp only [SV.closed] at h; simp only [SV.has]; exact SV.not_hasAny_of_closed k h
  | .clo _ cs, k, h => by simp only [SV.closed] at h; simp only [SV.has]; exact SV.not_hasAny_of_closed k h
  | .box _ _, _, h => by simp [SV.closed] at h
  | .acc _, _, h => by simp [SV.closed] at h
  | .aptr _ _ _, _, h => by simp [SV.closed] at h
  | .mp _, _, h => by simp [SV.closed] at h
theorem SV.not_hasAny_of_closed : ∀ {cs : List SV} (k : Nat), SV.closedAll cs = true → SV.hasAny k cs = false
  | [], _, _ => rfl
  | c :: cs, k, h => by
    simp only [SV.closedAll, Bool.and_eq_true] at h
    simp only [SV.hasAny, SV.not_has_of_closed k h.1, SV.not_hasAny_of_closed k h.2, Bool.or_false]
end

theorem RepV.closed {S : Nat → Prop} {w : World} {β β' : Names} {x : SV} {v : Value} (h : RepV S w β x v) (hc : x.closed = true) : RepV S w β' x v :=
  h.ext (SExt.refl S w) fun k hk => by rw [SV.not_has_of_closed k hc] at hk; simp at hk

theorem RepV.one {S : Nat → Prop} {w : World} {β : Names} {x : SV} {v : Value} (h : RepV S w β x v) (hx : x.one = true) : v.oneCell' = true := by
  cases h with
  | undef => simp [SV.one] at hx
  | agg => simp [SV.one] at hx
  | tuple => simp [SV.one] at hx
  | d x v h => exact h.one hx
  | _ => rfl

/-- a list of values reads as a list of abstract values -/
def RepL (S : Nat → Prop) (w : World) (β : Names) (xs : List SV) (vs : List Value) : Prop :=
  vs.length = xs.length ∧ ∀ (j : Nat) (c : SV) (v : Value), xs[j]? = some c → vs[j]? = some v → RepV S w β c v

theorem RepL.nil {S : Nat → Prop} {w : World} {β : Names} : RepL S w β [] [] := ⟨rfl, by simp⟩
theorem RepL.cons {S : Nat → Prop} {w : World} {β : Names} {x : SV} {xs : List SV} {v : Value} {vs : List Value} (h : RepV S w β x v) (t : RepL S w β xs vs) :
    RepL S w β (x :: xs) (v :: vs) := by
  refine ⟨by simp [t.1], ?_⟩
  intro j c u hc hu
  cases j with
  | zero => simp at hc hu; subst hc; subst hu; exact h
  | succ j => simp at hc hu; exact t.2 j c u hc hu
theorem RepL.get {S : Nat → Prop} {w : World} {β : Names} {xs : List SV} {vs : List Value} (h : RepL S w β xs vs) {j : Nat} {c : SV} (hc : xs[j]? = some c) :
    ∃ v, vs[j]? = some v ∧ RepV S w β c v := by
  have hj : j < vs.length := by have := (List.getElem?_eq_some_iff.1 hc).1; have := h.1; omega
  exact ⟨vs[j], List.getElem?_eq_getElem hj, h.2 j c _ hc (List.getElem?_eq_getElem hj)⟩
theorem RepL.append {S : Nat → Prop} {w : World} {β : Names} {xs ys : List SV} {vs us : List Value} (h : RepL S w β xs vs) (t : RepL S w β ys us) :
    RepL S w β (xs ++ ys) (vs ++ us) := by
  refine ⟨by simp [h.1, t.1], ?_⟩
  intro j c u hc hu
  by_cases hj : j < xs.length
  · rw [List.getElem?_append_left hj] at hc
    rw [List.getElem?_append_left (by have := h.1; omega)] at hu
    exact h.2 j c u hc hu
  · rw [List.getElem?_append_right (by omega)] at hc
    rw [List.getElem?_append_right (by have := h.1; omega)] at hu
    have := h.1
    exact t.2 (j - xs.length) c u hc (by rw [← this]; exact hu)
theorem RepL.map {S S' : Nat → Prop} {w w' : World} {β β' : Names} {xs ys : List SV} {vs : List Value} (h : RepL S w β xs vs) (hl : ys.length = xs.length)
    (hm : ∀ (j : Nat) (x y : SV) (v : Value), xs[j]? = some x → ys[j]? = some y → RepV S w β x v → RepV S' w' β' y v) : RepL S' w' β' ys vs := by
  refine ⟨by rw [h.1, hl], ?_⟩
  intro j c v hc hv
  have hj : j < xs.length := by have := (List.getElem?_eq_some_iff.1 hc).1; omega
  exact hm j xs[j] c v (List.getElem?_eq_getElem hj) hc (h.2 j _ v (List.getElem?_eq_getElem hj) hv)

inductive BoxC where
  | cells (cs : List SV)
  | rows (sz : Nat) (rs : List (List D))
  | map (kvs : List (D × D))

def BoxC.has (k : Nat) : BoxC → Bool
  | .cells cs => SV.hasAny k cs
  | _ => false

abbrev Boxes := List (Nat × BoxC)

/-- what a box holds -/
def BoxOK (S : Nat → Prop) (w : World) (β : Names) (i : BI) : BoxC → Prop
  | .cells cs => ∃ b ty vs, i.base = some b ∧ w.heap[b]? = some (.cells ⟨vs⟩ ty (0, 0)) ∧ RepL S w β cs vs
  | .rows sz rs => i.sz = sz ∧ rs.length = i.len ∧ i.len ≤ i.cap ∧ rs.length ≤ lim ∧ (∀ row, row ∈ rs → row.length = sz) ∧ (∀ row, row ∈ rs → ∀ d, d ∈ row → d.one = true) ∧
      match i.base with
      | none => i.cap = 0
      | some b => ∃ ty vs, w.heap[b]? = some (.cells ⟨vs⟩ ty (0, 0)) ∧ (i.off + i.cap) * sz ≤ vs.length ∧
          ∀ (r j : Nat) (row : List D) (d : D) (v : Value), rs[r]? = some row → row[j]? = some d → vs[(i.off + r) * sz + j]? = some v → RepC S w d v
  | .map kvs => ∃ b es clock, i.base = some b ∧ w.heap[b]? = some (.map es clock) ∧ MSz es clock kvs.length ∧
      (∀ (r : Nat) (kv : D × D) (e : MapEntry), kvs[r]? = some kv → es[r]? = some e → RepC S w kv.1 e.key ∧ RepC S w kv.2 e.val)

theorem BoxOK.ext {S S' : Nat → Prop} {w w' : World} {β β' : Names} {i : BI} {c : BoxC} (h : BoxOK S w β i c) (e : SExt S w S' w')
    (hw : ∀ b, i.base = some b → w'.heap[b]? = w.heap[b]?) (hb : ∀ k, c.has k = true → β' k = β k) : BoxOK S' w' β' i c := by
  cases c with
  | cells cs =>
    obtain ⟨b, ty, vs, h1, h2, h3⟩ := h
    refine ⟨b, ty, vs, h1, (hw b h1).trans h2, h3.1, fun j c v hc hv => (h3.2 j c v hc hv).ext e fun k hk => hb k ?_⟩
    cases hh : SV.hasAny k cs with
    | false => rw [SV.hasAny_false hh j c hc] at hk; simp at hk
    | true => simp [BoxC.has, hh]
  | rows sz rs =>
    obtain ⟨h1, h2, h3, h4, h5, h6, h7⟩ := h
    refine ⟨h1, h2, h3, h4, h5, h6, ?_⟩
    cases hbase : i.base with
    | none => rw [hbase] at h7; exact h7
    | some b =>
      rw [hbase] at h7
      obtain ⟨ty, vs, g1, g2, g3⟩ := h7
      exact ⟨ty, vs, (hw b hbase).trans g1, g2, fun r j row d v hr hd hv => (g3 r j row d v hr hd hv).ext e⟩
  | map kvs =>
    obtain ⟨b, es, clock, h1, h2, h3, h4⟩ := h
    exact ⟨b, es, clock, h1, (hw b h1).trans h2, h3, fun r kv x hr hx => ⟨(h4 r kv x hr hx).1.ext e, (h4 r kv x hr hx).2.ext e⟩⟩

/-- where a frame stands: what it began with -/
structure Ctx where
  w0 : World
  S0 : Nat → Prop
  pre : Nat → Prop
  /-- boxes (keys from 10^6 on) that stay where they are -/
  fixd : Nat → Nat → Prop

structure Inv (C : Ctx) (S : Nat → Prop) (w : World) (β : Names) (bx : Boxes) : Prop where
  S0sub : ∀ b, C.S0 b → S b
  Snew : ∀ b, S b → C.S0 b ∨ C.pre b ∨ C.w0.heap.size ≤ b
  Slt : ∀ b, S b → b < w.heap.size
  kept : ∀ b, b < C.w0.heap.size → ¬ C.pre b → w.heap[b]? = C.w0.heap[b]?
  os : w.os = C.w0.os
  tape : w.tape = C.w0.tape
  output : w.output = C.w0.output
  size : C.w0.heap.size ≤ w.heap.size
  box : ∀ k c, (k, c) ∈ bx → BoxOK S w β (β k) c
  priv : ∀ k c, (k, c) ∈ bx → ∀ b, (β k).base = some b → ¬ S b ∧ b < w.heap.size ∧ (C.pre b ∨ C.w0.heap.size ≤ b)
  inj : ∀ k c k' c', (k, c) ∈ bx → (k', c') ∈ bx → ∀ b, (β k).base = some b → (β k').base = some b → k = k' ∧ c = c'
  fix : ∀ k b, C.fixd k b → 1000000 ≤ k ∧ (β k).base = some b

/-- less boxes known -/
theorem Inv.sub {C : Ctx} {S : Nat → Prop} {w : World} {β : Names} {bx bx' : Boxes} (h : Inv C S w β bx) (hs : ∀ k c, (k, c) ∈ bx' → (k, c) ∈ bx) : Inv C S w β bx' :=
  { h with box := fun k c hk => h.box k c (hs k c hk), priv := fun k c hk => h.priv k c (hs k c hk), inj := fun k c k' c' hk hk' => h.inj k c k' c' (hs k c hk) (hs k' c' hk') }

/-- the step that every operation makes: blocks of S and of the other boxes stay, one box (or none) is set anew -/
theorem Inv.step {C : Ctx} {S S' : Nat → Prop} {w w' : World} {β β' : Names} {bx bx' : Boxes} (h : Inv C S w β bx) (e : SExt S w S' w')
    (hS : ∀ b, S' b → S b ∨ w.heap.size ≤ b) (hSlt : ∀ b, S' b → b < w'.heap.size)
    (hkept : ∀ b, b < w.heap.size → (∀ k c, (k, c) ∈ bx → (β k).base ≠ some b) → w'.heap[b]? = w.heap[b]?)
    (hos : w'.os = w.os) (htape : w'.tape = w.tape) (hout : w'.output = w.output) (hsize : w.heap.size ≤ w'.heap.size)
    (hbx : ∀ k c, (k, c) ∈ bx' → BoxOK S' w' β' (β' k) c ∧ ∀ b, (β' k).base = some b → ¬ S' b ∧ b < w'.heap.size ∧ (w.heap.size ≤ b ∨ ∃ j x, (j, x) ∈ bx ∧ (β j).base = some b))
    (hinj : ∀ k c k' c', (k, c) ∈ bx' → (k', c') ∈ bx' → ∀ b, (β' k).base = some b → (β' k').base = some b → k = k' ∧ c = c')
    (hfix : ∀ k, 1000000 ≤ k → β' k = β k) :
    Inv C S' w' β' bx' where
  S0sub b hb := e.sub b (h.S0sub b hb)
  Snew b hb := by
    rcases hS b hb with hb | hb
    · exact h.Snew b hb
    · exact .inr (.inr (Nat.le_trans h.size hb))
  Slt := hSlt
  kept b hb hp := by
    rw [← h.kept b hb hp]
    refine hkept b (Nat.lt_of_lt_of_le hb h.size) ?_
    intro k c hk hbase
    rcases (h.priv k c hk b hbase).2.2 with h' | h'
    · exact hp h'
    · omega
  os := hos.trans h.os
  tape := htape.trans h.tape
  output := hout.trans h.output
  size := Nat.le_trans h.size hsize
  box k c hk := (hbx k c hk).1
  priv k c hk b hb := by
    obtain ⟨h1, h2, h3⟩ := (hbx k c hk).2 b hb
    refine ⟨h1, h2, ?_⟩
    rcases h3 with h3 | ⟨j, x, hj, hjb⟩
    · exact .inr (Nat.le_trans h.size h3)
    · exact (h.priv j x hj b hjb).2.2
  inj := hinj
  fix k b hb := by have := h.fix k b hb; rw [hfix k this.1]; exact this

/-- an operation that leaves the boxes alone: the world grows -/
theorem Inv.grow {C : Ctx} {S S' : Nat → Prop} {w w' : World} {β : Names} {bx : Boxes} (h : Inv C S w β bx)
    (hsub : ∀ b, S b → S' b) (hS : ∀ b, S' b → S b ∨ w.heap.size ≤ b) (hSlt : ∀ b, S' b → b < w'.heap.size)
    (hkept : ∀ b, b < w.heap.size → w'.heap[b]? = w.heap[b]?)
    (hos : w'.os = w.os) (htape : w'.tape = w.tape) (hout : w'.output = w.output) (hsize : w.heap.size ≤ w'.heap.size) :
    Inv C S' w' β bx ∧ SExt S w S' w' := by
  have e : SExt S w S' w' := ⟨hsub, fun b hb => hkept b (h.Slt b hb)⟩
  refine ⟨h.step e hS hSlt (fun b hb _ => hkept b hb) hos htape hout hsize ?_ h.inj (fun _ _ => rfl), e⟩
  intro k c hk
  refine ⟨(h.box k c hk).ext e (fun b hb => hkept b (h.priv k c hk b hb).2.1) (fun _ _ => rfl), ?_⟩
  intro b hb
  obtain ⟨h1, h2, h3⟩ := h.priv k c hk b hb
  refine ⟨fun hc => ?_, by omega, .inr ⟨k, c, hk, hb⟩⟩
  rcases hS b hc with hc | hc
  · exact h1 hc
  · omega

end Go.Abs
