/- The operations on abstract values: those that make or set boxes. Own framework, part E. -/
import Derived.Test.YtibfepggadjjgaaAbsD
namespace Go.Abs
open Go

variable {P : Program} {o : Oper} {ρ : Rho} {bx : Boxes}

def berase (k : Nat) : Boxes → Boxes
  | [] => []
  | (j, c) :: r => if j = k then berase k r else (j, c) :: berase k r
theorem mem_berase {k j : Nat} {c : BoxC} : ∀ {bx : Boxes}, (j, c) ∈ berase k bx ↔ j ≠ k ∧ (j, c) ∈ bx
  | [] => by simp [berase]
  | (i, x) :: r => by
    simp only [berase]
    split
    · rename_i h; subst h; rw [mem_berase]; simp only [List.mem_cons, Prod.mk.injEq]
      constructor
      · rintro ⟨h1, h2⟩; exact ⟨h1, .inr h2⟩
      · rintro ⟨h1, h2⟩; exact ⟨h1, h2.resolve_left fun h => h1 h.1⟩
    · rename_i h; simp only [List.mem_cons, Prod.mk.injEq, mem_berase]
      constructor
      · rintro (⟨h1, h2⟩ | h2)
        · subst h1; subst h2; exact ⟨h, .inl ⟨rfl, rfl⟩⟩
        · exact ⟨h2.1, .inr h2.2⟩
      · rintro ⟨h1, h2 | h2⟩
        · exact .inl h2
        · exact .inr ⟨h1, h2⟩

def spurge (k : Nat) (x : SV) : SV := if x.has k then .undef else x
def BoxC.purge (k : Nat) : BoxC → BoxC
  | .cells cs => .cells (cs.map (spurge k))
  | c => c
def bpurge (k : Nat) : Boxes → Boxes
  | [] => []
  | (j, c) :: r => (j, c.purge k) :: bpurge k r
theorem mem_bpurge {k j : Nat} {c : BoxC} : ∀ {bx : Boxes}, (j, c) ∈ bpurge k bx → ∃ x, (j, x) ∈ bx ∧ c = x.purge k
  | [], h => by simp [bpurge] at h
  | (i, x) :: r, h => by
    simp only [bpurge, List.mem_cons, Prod.mk.injEq] at h
    rcases h with ⟨h1, h2⟩ | h
    · subst h1; exact ⟨x, by simp, h2⟩
    · obtain ⟨y, hy, hc⟩ := mem_bpurge h; exact ⟨y, by simp [hy], hc⟩

def upd (β : Names) (k : Nat) (i : BI) : Names := fun j => if j = k then i else β j
theorem upd_same (β : Names) (k : Nat) (i : BI) : upd β k i k = i := by simp [upd]
theorem upd_ne {β : Names} {k j : Nat} {i : BI} (h : j ≠ k) : upd β k i j = β j := by simp [upd, h]

theorem RepV.purge {S S' : Nat → Prop} {w w' : World} {β : Names} {k : Nat} {i : BI} {x : SV} {v : Value} (h : RepV S w β x v) (e : SExt S w S' w') : RepV S' w' (upd β k i) (spurge k x) v := by
  unfold spurge
  split
  · exact .undef v
  · rename_i hk
    refine h.ext e fun j hj => upd_ne ?_
    intro he; subst he; exact hk hj

theorem BoxOK.purge {S S' : Nat → Prop} {w w' : World} {β : Names} {k : Nat} {i bi : BI} {c : BoxC} (h : BoxOK S w β bi c) (e : SExt S w S' w')
    (hw : ∀ b, bi.base = some b → w'.heap[b]? = w.heap[b]?) : BoxOK S' w' (upd β k i) bi (c.purge k) := by
  cases c with
  | cells cs =>
    obtain ⟨b, ty, vs, h1, h2, h3⟩ := h
    refine ⟨b, ty, vs, h1, (hw b h1).trans h2, h3.map (by simp) ?_⟩
    intro j x y v hx hy hr
    simp only [List.getElem?_map, hx, Option.map_some, Option.some.injEq] at hy
    subst hy; exact hr.purge e
  | rows sz rs => exact BoxOK.ext (c := .rows sz rs) h e hw (by simp [BoxC.has])
  | map kvs => exact BoxOK.ext (c := .map kvs) h e hw (by simp [BoxC.has])

theorem Inv.setSame {C : Ctx} {S : Nat → Prop} {w w' : World} {β : Names} {k b : Nat} {x c : BoxC} (h : Inv C S w β bx) (hk : (k, x) ∈ bx) (hb : (β k).base = some b)
    (hw : ∀ b', b' ≠ b → w'.heap[b']? = w.heap[b']?) (hos : w'.os = w.os) (htape : w'.tape = w.tape) (hout : w'.output = w.output) (hsize : w'.heap.size = w.heap.size)
    (hc : BoxOK S w' β (β k) c) : Inv C S w' β ((k, c) :: berase k bx) ∧ SExt S w S w' := by
  have e : SExt S w S w' := ⟨fun _ h => h, fun b' hb' => hw b' fun he => (h.priv k x hk b hb).1 (he ▸ hb')⟩
  refine ⟨h.step e (fun b' hb' => .inl hb') (fun b' hb' => by rw [hsize]; exact h.Slt b' hb') (fun b' _ hn => hw b' fun he => hn k x hk (by rw [hb, he])) hos htape hout (by omega) ?_ ?_ (fun _ _ => rfl), e⟩
  · intro j d hj
    simp only [List.mem_cons, Prod.mk.injEq] at hj
    rcases hj with ⟨rfl, rfl⟩ | hj
    · refine ⟨hc, fun b' hb' => ?_⟩
      obtain ⟨h1, h2, _⟩ := h.priv _ x hk b' hb'
      exact ⟨h1, by omega, .inr ⟨_, x, hk, hb'⟩⟩
    · obtain ⟨hne, hj⟩ := mem_berase.1 hj
      refine ⟨(h.box j d hj).ext e (fun b' hb' => hw b' fun he => hne (h.inj j d k x hj hk b' hb' (by rw [hb, he])).1) (fun _ _ => rfl), fun b' hb' => ?_⟩
      obtain ⟨h1, h2, _⟩ := h.priv j d hj b' hb'
      exact ⟨h1, by omega, .inr ⟨_, d, hj, hb'⟩⟩
  · intro j d j' d' hj hj' b' hb1 hb2
    simp only [List.mem_cons, Prod.mk.injEq] at hj hj'
    rcases hj with ⟨rfl, rfl⟩ | hj
    · rcases hj' with ⟨rfl, rfl⟩ | hj'
      · exact ⟨rfl, rfl⟩
      · obtain ⟨hne, hj'⟩ := mem_berase.1 hj'
        exact absurd (h.inj j' d' _ x hj' hk b' hb2 hb1).1 hne
    · obtain ⟨hne, g⟩ := mem_berase.1 hj
      clear hj
      rcases hj' with ⟨rfl, rfl⟩ | hj'
      · exact absurd (h.inj j d _ x g hk b' hb1 hb2).1 hne
      · obtain ⟨hne', g'⟩ := mem_berase.1 hj'
        exact h.inj j d j' d' g g' b' hb1 hb2

theorem Inv.setNewG {C : Ctx} {S S' : Nat → Prop} {w w' : World} {β : Names} {k : Nat} {c : BoxC} (i : BI) (h : Inv C S w β bx) (hkf : k ≤ 999999)
    (hsub : ∀ b, S b → S' b) (hSn : ∀ b, S' b → S b ∨ w.heap.size ≤ b) (hSl : ∀ b, S' b → b < w'.heap.size)
    (hi : ∀ b, i.base = some b → ¬ S' b ∧ b < w'.heap.size ∧ (w.heap.size ≤ b ∨ ∃ x, (k, x) ∈ bx ∧ (β k).base = some b))
    (hw : ∀ b', b' < w.heap.size → (∀ x, (k, x) ∈ bx → (β k).base ≠ some b') → w'.heap[b']? = w.heap[b']?)
    (hos : w'.os = w.os) (htape : w'.tape = w.tape) (hout : w'.output = w.output) (hsize : w.heap.size ≤ w'.heap.size)
    (hc : SExt S w S' w' → BoxOK S' w' (upd β k i) i c) : Inv C S' w' (upd β k i) ((k, c) :: bpurge k (berase k bx)) ∧ SExt S w S' w' := by
  have e : SExt S w S' w' := ⟨hsub, fun b' hb' => hw b' (h.Slt b' hb') fun x hx he => (h.priv k x hx b' he).1 hb'⟩
  refine ⟨h.step e hSn hSl (fun b' hb hn => hw b' hb fun x hx => hn k x hx) hos htape hout hsize ?_ ?_ (fun j hj => upd_ne (by omega)), e⟩
  · intro j d hj
    simp only [List.mem_cons, Prod.mk.injEq] at hj
    rcases hj with ⟨rfl, rfl⟩ | hj
    · rw [upd_same]
      refine ⟨hc e, fun b' hb' => ?_⟩
      obtain ⟨h1, h2, h3⟩ := hi b' hb'
      refine ⟨h1, h2, ?_⟩
      rcases h3 with h3 | ⟨x, hx, hbx⟩
      · exact .inl h3
      · exact .inr ⟨_, x, hx, hbx⟩
    · obtain ⟨x, g0, rfl⟩ := mem_bpurge hj
      obtain ⟨hne, g⟩ := mem_berase.1 g0
      rw [upd_ne hne]
      refine ⟨(h.box j x g).purge e (fun b' hb' => hw b' (h.priv j x g b' hb').2.1 fun y hy he => hne (h.inj j x k y g hy b' hb' he).1), fun b' hb' => ?_⟩
      obtain ⟨h1, h2, _⟩ := h.priv j x g b' hb'
      exact ⟨fun hs => (hSn b' hs).elim h1 (by omega), by omega, .inr ⟨_, x, g, hb'⟩⟩
  · have fresh : ∀ j x b', j ≠ k → (j, x) ∈ bx → (β j).base = some b' → i.base ≠ some b' := by
      intro j x b' hne hj hb' hib
      rcases (hi b' hib).2.2 with h3 | ⟨y, hy, hby⟩
      · have := (h.priv j x hj b' hb').2.1; omega
      · exact hne (h.inj j x k y hj hy b' hb' hby).1
    intro j d j' d' hj hj' b' hb1 hb2
    simp only [List.mem_cons, Prod.mk.injEq] at hj hj'
    rcases hj with ⟨rfl, rfl⟩ | hj
    · rcases hj' with ⟨rfl, rfl⟩ | hj'
      · exact ⟨rfl, rfl⟩
      · obtain ⟨x, g0, rfl⟩ := mem_bpurge hj'
        obtain ⟨hne, g⟩ := mem_berase.1 g0
        rw [upd_same] at hb1; rw [upd_ne hne] at hb2
        exact absurd hb1 (fresh j' x b' hne g hb2)
    · obtain ⟨x, g0, rfl⟩ := mem_bpurge hj
      obtain ⟨hne, g⟩ := mem_berase.1 g0
      clear hj g0
      rw [upd_ne hne] at hb1
      rcases hj' with ⟨rfl, rfl⟩ | hj'
      · rw [upd_same] at hb2
        exact absurd hb2 (fresh j x b' hne g hb1)
      · obtain ⟨x', g0', rfl⟩ := mem_bpurge hj'
        obtain ⟨hne', g'⟩ := mem_berase.1 g0'
        rw [upd_ne hne'] at hb2
        obtain ⟨h1, h2⟩ := h.inj j x j' x' g g' b' hb1 hb2
        exact ⟨h1, by rw [h2]⟩

theorem Inv.setNew {C : Ctx} {S : Nat → Prop} {w w' : World} {β : Names} {k : Nat} {c : BoxC} (i : BI) (h : Inv C S w β bx) (hkf : k ≤ 999999)
    (hi : ∀ b, i.base = some b → ¬ S b ∧ b < w'.heap.size ∧ (w.heap.size ≤ b ∨ ∃ x, (k, x) ∈ bx ∧ (β k).base = some b))
    (hw : ∀ b', b' < w.heap.size → (∀ x, (k, x) ∈ bx → (β k).base ≠ some b') → w'.heap[b']? = w.heap[b']?)
    (hos : w'.os = w.os) (htape : w'.tape = w.tape) (hout : w'.output = w.output) (hsize : w.heap.size ≤ w'.heap.size)
    (hc : SExt S w S w' → BoxOK S w' (upd β k i) i c) : Inv C S w' (upd β k i) ((k, c) :: bpurge k (berase k bx)) ∧ SExt S w S w' :=
  h.setNewG i hkf (fun _ h => h) (fun _ h => .inl h) (fun b hb => Nat.lt_of_lt_of_le (h.Slt b hb) hsize) hi hw hos htape hout hsize hc

/-! constants -/
def constSV : Value → SV
  | .int k n => .d (.int k n)
  | .bool b => .d (.bool b)
  | .string s => if s.size ≤ lim then .d (.str s.data.toList) else .undef
  | .slice none 0 0 => .d .nil
  | .pointer none => .d .nilptr
  | .map none => .d .nilmap
  | .nilIface => .d .niliface
  | .tuple ⟨[]⟩ => .tuple []
  | _ => .undef
theorem repV_const (S : Nat → Prop) (w : World) (β : Names) (v : Value) : RepV S w β (constSV v) v := by
  unfold constSV
  split
  · exact .int _ _
  · exact .bool _
  · rename_i s
    split
    · exact .d _ _ (.str s.data.toList (by assumption))
    · exact .undef _
  · exact .d _ _ .nil
  · exact .d _ _ .nilptr
  · exact .d _ _ .nilmap
  · exact .d _ _ .niliface
  · exact .tuple [] [] rfl (by simp)
  · exact .undef _

def tzero (P : Program) (T : TypeId) : Option (List SV) := ((P.info? T).bind (·.zero)).map fun z => z.cells.toList.map constSV
theorem run_zeroValue' {T : TypeId} {zs : List SV} (h : tzero P T = some zs) (w : World) : ∃ z, (zeroValue T).run P w = .ok z w ∧ zs = z.cells.toList.map constSV := by
  unfold tzero at h
  cases hi : P.info? T with
  | none => simp [hi] at h
  | some i =>
    cases hz : i.zero with
    | none => simp [hi, hz] at h
    | some z =>
      simp [hi, hz] at h
      exact ⟨z, by simp [zeroValue, typeInfo, hi, hz], h.symm⟩
theorem repL_const (S : Nat → Prop) (w : World) (β : Names) (vs : List Value) : RepL S w β (vs.map constSV) vs := by
  refine ⟨by simp, ?_⟩
  intro j c v hc hv
  simp [hv] at hc
  subst hc; exact repV_const S w β v

/-! a new box -/
theorem heap_push_old (w : World) (x : Obj) {b : Nat} (h : b < w.heap.size) : (w.heap.push x)[b]? = w.heap[b]? := by
  rw [Array.getElem?_push, if_neg (by omega)]
theorem heap_push_new (w : World) (x : Obj) : (w.heap.push x)[w.heap.size]? = some x := by simp

theorem Inv.newCells {C : Ctx} {S : Nat → Prop} {w : World} {β : Names} {k : Nat} {cs : List SV} {vs : List Value} (h : Inv C S w β bx) (hkf : k ≤ 999999) (T : TypeId) (hr : RepL S w β cs vs) :
    Inv C S { w with heap := w.heap.push (.cells ⟨vs⟩ T) } (upd β k { base := some w.heap.size }) ((k, .cells (cs.map (spurge k))) :: bpurge k (berase k bx)) ∧ SExt S w S { w with heap := w.heap.push (.cells ⟨vs⟩ T) } := by
  refine h.setNew { base := some w.heap.size } hkf ?_ ?_ rfl rfl rfl (by simp) ?_
  · intro b hb
    simp only [Option.some.injEq] at hb; subst hb
    exact ⟨fun hs => by have := h.Slt _ hs; omega, by simp, .inl (Nat.le_refl _)⟩
  · intro b' hb' _; exact heap_push_old w _ hb'
  · intro e
    refine ⟨w.heap.size, T, vs, rfl, heap_push_new w _, hr.map (by simp) ?_⟩
    intro j x y v hx hy hxv
    simp only [List.getElem?_map, hx, Option.map_some, Option.some.injEq] at hy
    subst hy; exact hxv.purge e

theorem opT_alloc {T k : Nat} (hkf : k ≤ 999999) (ho : o.op = .alloc T) {zs : List SV} (hz : tzero P T = some zs) :
    OpT P o ρ bx (.box k 0) ((k, .cells (zs.map (spurge k))) :: bpurge k (berase k bx)) [k] := by
  intro C S w β a hi ha
  obtain ⟨z, hrun, rfl⟩ := run_zeroValue' hz w
  obtain ⟨h1, h2⟩ := hi.newCells (k := k) hkf T (repL_const S w β z.cells.toList)
  unfold Oper.wp
  have : (execOp a.eval o).run P w = .ok (.value (.pointer (some ⟨w.heap.size, 0, none⟩))) { w with heap := w.heap.push (.cells ⟨z.cells.toList⟩ T) } := by
    simp [execOp, ho, Instr.alloc, hrun, newVar, newRow]
  rw [this]
  exact ⟨_, S, _, rfl, h1, h2, .box k 0 _ (by rw [upd_same]), fun j hj => upd_ne (by simpa using hj)⟩

/-- the cells of a value -/
def content : SV → Option (List SV)
  | .agg cs => some cs
  | x => if x.one then some [x] else none
theorem RepV.content {S : Nat → Prop} {w : World} {β : Names} {x : SV} {v : Value} {cs : List SV} (h : RepV S w β x v) (hc : content x = some cs) : RepL S w β cs v.cells.toList ∧ cs.all SV.one = true := by
  cases h with
  | agg cells vs h1 h2 h3 =>
    simp only [Abs.content, Option.some.injEq] at hc; subst hc
    exact ⟨⟨h1, h3⟩, List.all_eq_true.2 h2⟩
  | undef v => simp [Abs.content, SV.one] at hc
  | tuple cells vs => simp [Abs.content, SV.one] at hc
  | d x v h =>
    simp only [Abs.content] at hc
    by_cases ho : (SV.d x).one = true
    · rw [if_pos ho] at hc
      simp only [Option.some.injEq] at hc; subst hc
      have h1 := h.one ho
      have : v.cells.toList = [v] := by cases v <;> simp [Value.oneCell'] at h1 <;> rfl
      rw [this]
      exact ⟨.cons (.d _ _ h) .nil, by simp [ho]⟩
    · rw [if_neg ho] at hc; simp at hc
  | box k off b hb => simp only [Abs.content, SV.one, if_true, Option.some.injEq] at hc; subst hc; exact ⟨.cons (.box k off b hb) .nil, rfl⟩
  | dptr cells off b base h1 h2 h3 h4 => simp only [Abs.content, SV.one, if_true, Option.some.injEq] at hc; subst hc; exact ⟨.cons (.dptr cells off b base h1 h2 h3 h4) .nil, rfl⟩
  | acc k => simp only [Abs.content, SV.one, if_true, Option.some.injEq] at hc; subst hc; exact ⟨.cons (.acc k) .nil, rfl⟩
  | aptr k i off b hb => simp only [Abs.content, SV.one, if_true, Option.some.injEq] at hc; subst hc; exact ⟨.cons (.aptr k i off b hb) .nil, rfl⟩
  | mp k b hb => simp only [Abs.content, SV.one, if_true, Option.some.injEq] at hc; subst hc; exact ⟨.cons (.mp k b hb) .nil, rfl⟩
  | clo f caps vs h1 h2 => simp only [Abs.content, SV.one, if_true, Option.some.injEq] at hc; subst hc; exact ⟨.cons (.clo f caps vs h1 h2) .nil, rfl⟩

theorem opT_box {T k : Nat} {x : Operand} (hkf : k ≤ 999999) (ho : o.op = .box T x) {cs : List SV} (hx : content (ρ x) = some cs) :
    OpT P o ρ bx (.box k 0) ((k, .cells (cs.map (spurge k))) :: bpurge k (berase k bx)) [k] := by
  intro C S w β a hi ha
  have hr := (((ha x (mo ho (by simp [Op.operands, Call.operands])))).content hx).1
  obtain ⟨h1, h2⟩ := hi.newCells (k := k) hkf T hr
  unfold Oper.wp
  have : (execOp a.eval o).run P w = .ok (.value (.pointer (some ⟨w.heap.size, 0, none⟩))) { w with heap := w.heap.push (.cells ⟨(a.eval x).cells.toList⟩ T) } := by
    simp [execOp, ho, Instr.box, newVar, newRow]
  rw [this]
  exact ⟨_, S, _, rfl, h1, h2, .box k 0 _ (by rw [upd_same]), fun j hj => upd_ne (by simpa using hj)⟩

/-! stores -/
def setAll {α : Type} : List α → Nat → List α → List α
  | cs, _, [] => cs
  | cs, off, u :: us => setAll (cs.set off u) (off + 1) us
theorem setAll_length {α : Type} : ∀ (us : List α) (cs : List α) (off : Nat), (setAll cs off us).length = cs.length
  | [], _, _ => rfl
  | u :: us, cs, off => by simp [setAll, setAll_length us]
theorem setAll_get {α : Type} : ∀ (us : List α) (cs : List α) (off j : Nat), off + us.length ≤ cs.length → (setAll cs off us)[j]? = if off ≤ j ∧ j < off + us.length then us[j - off]? else cs[j]?
  | [], cs, off, j, _ => by
    simp only [setAll, List.length_nil, Nat.add_zero]
    rw [if_neg (by omega)]
  | u :: us, cs, off, j, h => by
    simp only [List.length_cons] at h
    simp only [setAll, List.length_cons]
    rw [setAll_get us (cs.set off u) (off + 1) j (by simp; omega)]
    by_cases h1 : j = off
    · subst h1
      rw [if_neg (by omega), if_pos (by omega)]
      simp [List.getElem?_set, show j < cs.length by omega]
    · by_cases h2 : off + 1 ≤ j ∧ j < off + 1 + us.length
      · rw [if_pos h2, if_pos (by omega)]
        rw [show j - off = (j - (off + 1)) + 1 by omega, List.getElem?_cons_succ]
      · rw [if_neg h2, if_neg (by omega), List.getElem?_set_ne (by omega)]
theorem RepL.setAll {S : Nat → Prop} {w : World} {β : Names} {cs us : List SV} {vs ns : List Value} (h : RepL S w β cs vs) (t : RepL S w β us ns) {off : Nat} (hl : off + us.length ≤ cs.length) :
    RepL S w β (setAll cs off us) (setAll vs off ns) := by
  refine ⟨by rw [setAll_length, setAll_length, h.1], ?_⟩
  intro j c v hc hv
  rw [setAll_get _ _ _ _ hl] at hc
  rw [setAll_get _ _ _ _ (by rw [t.1, h.1]; exact hl)] at hv
  rw [t.1] at hv
  split at hc
  · rw [if_pos (by assumption)] at hv; exact t.2 _ c v hc hv
  · rw [if_neg (by assumption)] at hv; exact h.2 _ c v hc hv

theorem heap_setCell_row {w : World} {b p : Nat} {vs : List Value} {ty : TypeId} {fr : Nat × Nat} {v : Value} (h : w.heap[b]? = some (.cells ⟨vs⟩ ty fr)) :
    (w.setCell ⟨b, p, none⟩ v).heap[b]? = some (.cells ⟨vs.set p v⟩ ty fr) := by
  simp only [World.setCell, Array.getElem?_modify, if_true, h, Option.map_some, Option.isSome_none, Bool.false_eq_true, if_false]
  simp

/-- cells are stored, one behind the other -/
theorem run_storeCells' : ∀ (us vs : List Value) (b off i : Nat) (ty : TypeId) (w : World), w.heap[b]? = some (.cells ⟨vs⟩ ty (0, 0)) → off + i + us.length ≤ vs.length → us.all (·.oneCell') = true →
    ∃ w', (storeCells ⟨b, off, none⟩ us i).run P w = .ok () w' ∧ w'.heap[b]? = some (.cells ⟨setAll vs (off + i) us⟩ ty (0, 0)) ∧ (∀ b', b' ≠ b → w'.heap[b']? = w.heap[b']?) ∧
      w'.os = w.os ∧ w'.tape = w.tape ∧ w'.output = w.output ∧ w'.heap.size = w.heap.size
  | [], vs, b, off, i, ty, w, hh, _, _ => ⟨w, by simp [storeCells], hh, fun _ _ => rfl, rfl, rfl, rfl, rfl⟩
  | u :: us, vs, b, off, i, ty, w, hh, hl, h1 => by
    simp only [List.length_cons] at hl
    simp only [List.all_cons, Bool.and_eq_true] at h1
    have hcell : w.cell? ⟨b, off + i, none⟩ = some (vs[off + i]'(by omega)) := by rw [cells_of_row hh]; simp
    have hfr : w.frozen? ⟨b, off + i, none⟩ = false := by simp [World.frozen?, hh]
    have hst : (store ((⟨b, off, none⟩ : Addr).add i) u).run P w = Result.ok () (w.setCell ⟨b, off + i, none⟩ u) := by
      rw [add_addr, run_store P w _ u _ h1.1, hcell, hfr]; simp
    obtain ⟨w', hr, g1, g2, g3, g4, g5, g6⟩ := run_storeCells' us (vs.set (off + i) u) b off (i + 1) ty (w.setCell ⟨b, off + i, none⟩ u) (heap_setCell_row hh) (by simp; omega) h1.2
    refine ⟨w', ?_, ?_, ?_, by simpa [World.setCell] using g3, by simpa [World.setCell] using g4, by simpa [World.setCell] using g5, by simpa using g6⟩
    · simp only [storeCells, Sem.run_bind]
      rw [hst]
      exact hr
    · rw [g1]; simp only [setAll]; rw [Nat.add_assoc]
    · intro b' hb'
      rw [g2 b' hb', heap_setCell_other _ _ _ _ (by simpa using hb')]

theorem RepL.one {S : Nat → Prop} {w : World} {β : Names} {cs : List SV} {vs : List Value} (h : RepL S w β cs vs) (h1 : cs.all SV.one = true) : vs.all (·.oneCell') = true := by
  rw [List.all_eq_true]
  intro v hv
  obtain ⟨j, hj⟩ := List.mem_iff_getElem?.1 hv
  have hlt : j < cs.length := by have := (List.getElem?_eq_some_iff.1 hj).1; have := h.1; omega
  exact (h.2 j _ v (List.getElem?_eq_getElem hlt) hj).one (List.all_eq_true.1 h1 _ (List.getElem_mem hlt))

theorem opT_storeBox {T k off : Nat} {x y : Operand} (ho : o.op = .store T x y) {cs us : List SV} (hx : ρ x = .box k off) (hb : (k, BoxC.cells cs) ∈ bx) (hy : content (ρ y) = some us)
    (hs : tsize P T = some us.length) (hl : off + us.length ≤ cs.length) : OpT P o ρ bx (.tuple []) ((k, .cells (setAll cs off us)) :: berase k bx) [] := by
  intro C S w β a hi ha
  have hx1 := (ha x (mo ho (by simp [Op.operands, Call.operands]))); rw [hx] at hx1
  obtain ⟨b, hbase, hv⟩ := hx1.inv_box
  obtain ⟨b', ty, vs, hb', hh, hr⟩ := hi.box k _ hb
  rw [hbase] at hb'; cases hb'
  obtain ⟨hus, hone⟩ := ((ha y (mo ho (by simp [Op.operands, Call.operands])))).content hy
  have hlen := hus.1
  have hlen' := hr.1
  obtain ⟨w', hrun, g1, g2, g3, g4, g5, g6⟩ := run_storeCells' (P := P) (a.eval y).cells.toList vs b off 0 ty w hh (by omega) (hus.one hone)
  have e0 : SExt S w S w' := ⟨fun _ h => h, fun b' hb' => g2 b' fun he => (hi.priv k _ hb b hbase).1 (he ▸ hb')⟩
  obtain ⟨h1, h2⟩ := hi.setSame (c := .cells (setAll cs off us)) hb hbase g2 g3 g4 g5 g6 (by
    refine ⟨b, ty, _, hbase, by simpa using g1, ?_⟩
    exact ⟨(hr.setAll hus hl).1, fun j c v hc hv => ((hr.setAll hus hl).2 j c v hc hv).ext e0 fun _ _ => rfl⟩)
  unfold Oper.wp
  have : (execOp a.eval o).run P w = .ok .skip w' := by
    have hsz : (a.eval y).cells.size = us.length := by rw [← hlen]; simp
    simp [execOp, ho, Instr.storeAt, hv, Instr.sureAddr, storeVar, run_sizeOf' hs, hsz, hrun]
  rw [this]
  exact ⟨undef, S, β, rfl, h1, h2, .tuple [] [] rfl (by simp), fun _ _ => rfl⟩

/-- into an element of a slice of the call's own -/
theorem opT_storeAptr {T k i off sz : Nat} {x y : Operand} (ho : o.op = .store T x y) {rows : List (List D)} {row us : List D} (hx : ρ x = .aptr k i off) (hb : (k, BoxC.rows sz rows) ∈ bx)
    (hr : rows[i]? = some row) (hy : content (ρ y) = some (us.map SV.d)) (hs : tsize P T = some us.length) (hl : off + us.length ≤ row.length) :
    OpT P o ρ bx (.tuple []) ((k, .rows sz (rows.set i (setAll row off us))) :: berase k bx) [] := by
  intro C S w β a hi ha
  have hx1 := (ha x (mo ho (by simp [Op.operands, Call.operands]))); rw [hx] at hx1
  obtain ⟨q1, q2, q3, q4, q5, q6, q7⟩ := hi.box k _ hb
  obtain ⟨hus, hone⟩ := ((ha y (mo ho (by simp [Op.operands, Call.operands])))).content hy
  have hlen := hus.1; simp only [List.length_map] at hlen
  have hi' := (List.getElem?_eq_some_iff.1 hr).1
  have hrow := q5 row (List.mem_of_getElem? hr)
  generalize hv : a.eval x = v at hx1
  cases hx1 with
  | aptr _ _ _ b hbase =>
    rw [hbase] at q7
    obtain ⟨ty, vs, hh, hcap, hrep⟩ := q7
    rw [q1] at hv
    have hfit : ((β k).off + i) * sz + off + us.length ≤ vs.length := by
      have h1 : ((β k).off + i + 1) * sz ≤ ((β k).off + (β k).cap) * sz := Nat.mul_le_mul_right _ (by omega)
      rw [Nat.add_mul _ 1] at h1
      omega
    obtain ⟨w', hrun, g1, g2, g3, g4, g5, g6⟩ := run_storeCells' (P := P) (a.eval y).cells.toList vs b (((β k).off + i) * sz + off) 0 ty w hh (by omega) (hus.one hone)
    have e0 : SExt S w S w' := ⟨fun _ h => h, fun b' hb' => g2 b' fun he => (hi.priv k _ hb b hbase).1 (he ▸ hb')⟩
    obtain ⟨h1, h2⟩ := hi.setSame (c := .rows sz (rows.set i (setAll row off us))) hb hbase g2 g3 g4 g5 g6 (by
      refine ⟨q1, by simpa using q2, q3, by simpa using q4, ?_, ?_, ?_⟩
      · intro r hr'
        rcases List.mem_or_eq_of_mem_set hr' with h | h
        · exact q5 r h
        · subst h; rw [setAll_length]; exact hrow
      · intro r hr' d hd
        rcases List.mem_or_eq_of_mem_set hr' with h | h
        · exact q6 r h d hd
        · subst h
          obtain ⟨j, hj⟩ := List.mem_iff_getElem?.1 hd
          rw [setAll_get _ _ _ _ hl] at hj
          split at hj
          · have := List.all_eq_true.1 hone (.d d) (List.mem_map.2 ⟨d, List.mem_of_getElem? hj, rfl⟩)
            simpa [SV.one] using this
          · exact q6 row (List.mem_of_getElem? hr) d (List.mem_of_getElem? hj)
      · rw [hbase]
        refine ⟨ty, _, by simpa using g1, by rw [setAll_length]; exact hcap, ?_⟩
        intro r j row' d u hr' hd hu
        rw [setAll_get _ _ _ _ (by omega)] at hu
        by_cases hri : i = r
        · subst hri
          simp only [List.getElem?_set, hi', if_true, Option.some.injEq] at hr'
          subst hr'
          rw [setAll_get _ _ _ _ hl] at hd
          by_cases hj : off ≤ j ∧ j < off + us.length
          · rw [if_pos hj] at hd
            rw [if_pos (by omega)] at hu
            have := hus.2 (j - off) (.d d) u (by simp [hd]) (by rw [show j - off = ((β k).off + i) * sz + j - (((β k).off + i) * sz + off + 0) by omega]; exact hu)
            exact this.inv_d.ext e0
          · rw [if_neg hj] at hd
            rw [if_neg (by omega)] at hu
            exact (hrep i j row d u hr hd hu).ext e0
        · rw [List.getElem?_set_ne hri] at hr'
          have hjlt : j < sz := by
            have := (List.getElem?_eq_some_iff.1 hd).1
            have := q5 row' (List.mem_of_getElem? hr')
            omega
          rw [if_neg (by
            intro hin
            rcases Nat.lt_or_ge r i with hlt | hge
            · have : ((β k).off + r + 1) * sz ≤ ((β k).off + i) * sz := Nat.mul_le_mul_right _ (by omega)
              rw [Nat.add_mul _ 1] at this; omega
            · have : ((β k).off + i + 1) * sz ≤ ((β k).off + r) * sz := Nat.mul_le_mul_right _ (by omega)
              rw [Nat.add_mul _ 1] at this; omega)] at hu
          exact (hrep r j row' d u hr' hd hu).ext e0)
    unfold Oper.wp
    have : (execOp a.eval o).run P w = .ok .skip w' := by
      have hsz : (a.eval y).cells.size = us.length := by rw [← hlen]; simp
      simp [execOp, ho, Instr.storeAt, hv, Instr.sureAddr, storeVar, run_sizeOf' hs, hsz, hrun]
    rw [this]
    exact ⟨undef, S, β, rfl, h1, h2, .tuple [] [] rfl (by simp), fun _ _ => rfl⟩

end Go.Abs
