/- Regions, drawn or not. Own framework, part L. -/
import Derived.Test.YtibfepggadjjgaaAbsK
namespace Go.Abs
open Go

variable {P : Program} {n : Nat} {Q : Exit → SL → Boxes → Prop} {sl : SL} {bx : Boxes}

def dstsOK (n : Nat) (ops : List Oper) : Bool := ops.all fun o => match o.dst with | some t => decide (t < n) | none => true
theorem dstsOK_spec {ops : List Oper} (h : dstsOK n ops = true) : ∀ o, o ∈ ops → dstOK n o.dst := by
  intro o ho
  have := List.all_eq_true.1 h o ho
  unfold dstOK
  cases hd : o.dst <;> simp_all

/-- only what is used later -/
def keepSl (ks : List Nat) (sl : SL) : SL :=
  match ks with
  | [] => []
  | k :: r => (k, sget sl k) :: keepSl r sl
def keepBx (ks : List Nat) (bx : Boxes) : Boxes :=
  match ks with
  | [] => []
  | k :: r => match bget bx k with
    | some c => (k, c) :: keepBx r bx
    | none => keepBx r bx
theorem sget_keepSl (sl : SL) : ∀ (ks : List Nat) (t : Nat), sget (keepSl ks sl) t = sget sl t ∨ sget (keepSl ks sl) t = .undef
  | [], t => .inr rfl
  | k :: r, t => by
    simp only [keepSl, sget]
    split
    · subst_vars; exact .inl rfl
    · exact sget_keepSl sl r t
theorem mem_keepBx {k : Nat} {c : BoxC} : ∀ {ks : List Nat}, (k, c) ∈ keepBx ks bx → (k, c) ∈ bx
  | [], h => by simp [keepBx] at h
  | j :: r, h => by
    simp only [keepBx] at h
    split at h
    · rename_i x hx
      simp only [List.mem_cons, Prod.mk.injEq] at h
      rcases h with ⟨rfl, rfl⟩ | h
      · exact mem_of_bget hx
      · exact mem_keepBx h
    · exact mem_keepBx h
theorem St.keep {C : Ctx} {S : Nat → Prop} {w : World} {β : Names} {a : Act} (h : St C n S w β a sl bx) (ks kb : List Nat) : St C n S w β a (keepSl ks sl) (keepBx kb bx) :=
  ⟨h.inv.sub fun _ _ hk => mem_keepBx hk, h.size, h.defers, fun t => by
    rcases sget_keepSl sl ks t with e | e <;> rw [e]
    · exact h.slot t
    · exact .undef _⟩

theorem AWp.region {id : Nat} {ops : Array Oper} (ks kb : List Nat) (hd : dstsOK n ops.toList = true) (h : Run P n ops ops.toList sl bx fun sl' bx' => Q .normal (keepSl ks sl') (keepBx kb bx')) : AWp P n (.region id ops false) Q sl bx := by
  intro C S w β a hs
  refine wp_region ?_
  rw [List.range_eq_range']
  exact run_ops (dstsOK_spec hd) (fun sl' bx' S' w' β' a' hK hs' => ⟨_, _, S', β', hK, hs'.keep ks kb⟩) ops.size 0 sl bx S w β a (by simp) (by simpa using h) hs

/-! drawn -/
def usesOf (ops : Array Oper) (o : Oper) : List Nat := o.looksAt ops

/-- do the first m operations only write slots that none of them reads but behind an edge; do the rest stand behind all -/
def baseEdge (o : Oper) (j : Nat) : Bool := o.after.toList.any fun e => Region.binds .any e && e.on == j
def drawOK (ops : Array Oper) (m : Nat) (B : Array Nat) : Bool :=
  decide (m ≤ ops.size) &&
  -- edges lead back
  ((List.range ops.size).all fun i => (ops.getD i default).after.toList.all fun e => !Region.binds .any e || decide (e.on < i)) &&
  -- the first m: one writer a slot
  ((List.range m).all fun i => (List.range m).all fun j => match (ops.getD i default).dst with | some t => i == j || (ops.getD j default).dst != some t | none => true) &&
  -- a reader stands behind the writer
  ((List.range m).all fun i => (usesOf ops (ops.getD i default)).all fun t => (List.range m).all fun j => (ops.getD j default).dst != some t || (decide (j < i) && baseEdge (ops.getD i default) j)) &&
  -- B is closed
  ((List.range ops.size).all fun i => (List.range ops.size).all fun j => !(B.getD i 0).testBit j || ((ops.getD i default).after.toList.any fun e => Region.binds .any e && (e.on == j || (B.getD e.on 0).testBit j))) &&
  -- the rest stand behind all
  ((List.range ops.size).all fun i => decide (i < m) || (List.range i).all fun j => (B.getD i 0).testBit j)

structure DrawOK (ops : Array Oper) (m : Nat) : Prop where
  le : m ≤ ops.size
  back : ∀ (i : Nat) (o : Oper), ops[i]? = some o → ∀ e, e ∈ o.after → Region.binds .any e = true → e.on < i
  uniq : ∀ (i j : Nat) (oi oj : Oper) (t : Nat), i < m → j < m → ops[i]? = some oi → ops[j]? = some oj → oi.dst = some t → oj.dst = some t → i = j
  reads : ∀ (i j : Nat) (oi oj : Oper) (t : Nat), i < m → j < m → ops[i]? = some oi → ops[j]? = some oj → t ∈ usesOf ops oi → oj.dst = some t → j < i ∧ ∃ e, e ∈ oi.after ∧ Region.binds .any e = true ∧ e.on = j
  tail : ∀ (X : Nat → Prop), (∀ (i : Nat) (o : Oper), ops[i]? = some o → X i → ∀ e, e ∈ o.after → Region.binds .any e = true → X e.on) →
    ∀ (i : Nat) (o : Oper), ops[i]? = some o → m ≤ i → (∀ e, e ∈ o.after → Region.binds .any e = true → X e.on) → ∀ j, j < i → X j

theorem drawOK_spec {ops : Array Oper} {m : Nat} {B : Array Nat} (h : drawOK ops m B = true) : DrawOK ops m := by
  unfold drawOK at h
  simp only [Bool.and_eq_true, decide_eq_true_eq, List.all_eq_true, List.mem_range, Bool.or_eq_true, Bool.not_eq_true', Array.mem_toList_iff] at h
  obtain ⟨⟨⟨⟨⟨h1, h2⟩, h3⟩, h4⟩, h5⟩, h6⟩ := h
  have hget : ∀ {i : Nat} {o : Oper}, ops[i]? = some o → i < ops.size ∧ ops.getD i default = o := by
    intro i o ho
    obtain ⟨hlt, he⟩ := Array.getElem?_eq_some_iff.1 ho
    exact ⟨hlt, by simp [Array.getD, hlt, he]⟩
  have hback : ∀ (i : Nat) (o : Oper), ops[i]? = some o → ∀ e, e ∈ o.after → Region.binds .any e = true → e.on < i := by
    intro i o ho e he hb
    obtain ⟨hlt, hgo⟩ := hget ho
    have := h2 i hlt e (by rw [hgo]; exact he)
    rcases this with h | h
    · rw [hb] at h; simp at h
    · exact h
  refine ⟨h1, hback, ?_, ?_, ?_⟩
  · intro i j oi oj t hi hj ho ho' hd hd'
    have := h3 i hi j hj
    rw [(hget ho).2, (hget ho').2, hd] at this
    simp only [Bool.or_eq_true, beq_iff_eq, bne_iff_ne, ne_eq] at this
    exact this.resolve_right fun h => h hd'
  · intro i j oi oj t hi hj ho ho' ht hd
    have := h4 i hi t (by rw [(hget ho).2]; exact ht) j hj
    rw [(hget ho).2, (hget ho').2] at this
    rcases this with h | ⟨h, h'⟩
    · simp [hd] at h
    · refine ⟨h, ?_⟩
      unfold baseEdge at h'
      rw [List.any_eq_true] at h'
      obtain ⟨e, he, hb⟩ := h'
      simp only [Bool.and_eq_true, beq_iff_eq] at hb
      exact ⟨e, by simpa using he, hb.1, hb.2⟩
  · intro X hX i o ho hm hpre j hj
    have key : ∀ (k i : Nat) (o : Oper), i ≤ k → ops[i]? = some o → (∀ e, e ∈ o.after → Region.binds .any e = true → X e.on) → ∀ j, j < ops.size → (B.getD i 0).testBit j = true → X j := by
      intro k
      induction k with
      | zero =>
        intro i o hik ho hpre j hj hb
        obtain ⟨hlt, hgo⟩ := hget ho
        have := (h5 i hlt j hj).resolve_left (by rw [hb]; simp)
        rw [List.any_eq_true] at this
        obtain ⟨e, he, hbe⟩ := this
        rw [hgo] at he
        simp only [Bool.and_eq_true, Bool.or_eq_true, beq_iff_eq] at hbe
        have := hback i o ho e (by simpa using he) hbe.1
        omega
      | succ k ih =>
        intro i o hik ho hpre j hj hb
        obtain ⟨hlt, hgo⟩ := hget ho
        have := (h5 i hlt j hj).resolve_left (by rw [hb]; simp)
        rw [List.any_eq_true] at this
        obtain ⟨e, he, hbe⟩ := this
        rw [hgo] at he
        simp only [Bool.and_eq_true, Bool.or_eq_true, beq_iff_eq] at hbe
        have hxe := hpre e (by simpa using he) hbe.1
        rcases hbe.2 with h | h
        · rw [← h]; exact hxe
        · have hlt' := hback i o ho e (by simpa using he) hbe.1
          have heo : ops[e.on]? = some ops[e.on] := Array.getElem?_eq_getElem (by omega)
          exact ih e.on ops[e.on] (by omega) heo (fun e' he' hb' => hX e.on _ heo hxe e' he' hb') j hj h
    obtain ⟨hlt, hgo⟩ := hget ho
    have := (h6 i hlt).resolve_left (by omega)
    exact key i i o (Nat.le_refl _) ho hpre j (by omega) (this j hj)

/-- the first m operations, each leaving the boxes alone -/
def QRun (P : Program) (n : Nat) (ops : Array Oper) : List Oper → SL → Boxes → (SL → Prop) → Prop
  | [], sl, _, K => K sl
  | o :: os, sl, bx, K => ∃ g, guardV ops sl o = some g ∧ dstOK n o.dst ∧
      (g = true → ∃ r, OpT P o (opnd sl) bx r bx [] ∧ QRun P n ops os (sput sl o.dst r) bx K) ∧
      (g = false → QRun P n ops os (sput sl o.dst (.tuple [])) bx K)

/-- what each of the first operations yields -/
structure Yield (P : Program) (ops : Array Oper) (sl : SL) (bx : Boxes) (o : Oper) (f : SV) : Prop where
  yes : guardV ops sl o = some true → OpT P o (opnd sl) bx f bx []
  no : guardV ops sl o = some false → f = .tuple []
  some : ∃ g, guardV ops sl o = Option.some g

theorem QRun.yields {ops : Array Oper} {K : SL → Prop} : ∀ (os : List Oper) (sl : SL), QRun P n ops os sl bx K →
    ∃ (fs : List SV) (sls : List SL), fs.length = os.length ∧ sls.length = os.length + 1 ∧ sls[0]? = some sl ∧ (∃ e, sls[os.length]? = some e ∧ K e) ∧
      (∀ (i : Nat) (o : Oper), os[i]? = some o → ∃ s f, sls[i]? = some s ∧ fs[i]? = some f ∧ Yield P ops s bx o f ∧ sls[i + 1]? = some (sput s o.dst f))
  | [], sl, h => ⟨[], [sl], rfl, rfl, rfl, ⟨sl, rfl, h⟩, by simp⟩
  | o :: os, sl, h => by
    obtain ⟨g, hg, hd, h1, h2⟩ := h
    have key : ∃ f, Yield P ops sl bx o f ∧ QRun P n ops os (sput sl o.dst f) bx K := by
      cases g with
      | true =>
        obtain ⟨r, ho, hr⟩ := h1 rfl
        exact ⟨r, ⟨fun _ => ho, fun h => by rw [hg] at h; simp at h, true, hg⟩, hr⟩
      | false => exact ⟨.tuple [], ⟨fun h => by rw [hg] at h; simp at h, fun _ => rfl, false, hg⟩, h2 rfl⟩
    obtain ⟨f, hy, hr⟩ := key
    obtain ⟨fs, sls, q1, q2, q3, q4, q5⟩ := QRun.yields os _ hr
    refine ⟨f :: fs, sl :: sls, by simp [q1], by simp [q2], rfl, by simpa using q4, ?_⟩
    intro i o' ho'
    cases i with
    | zero => simp at ho'; subst ho'; exact ⟨sl, f, rfl, rfl, hy, by simpa using q3⟩
    | succ i => simpa using q5 i o' (by simpa using ho')

/-- what a slot holds where the operations of X have run -/
def Cur (ops : Array Oper) (fs : List SV) (sl : SL) (X : Nat → Prop) (t : Nat) (x : SV) : Prop :=
  (∃ i o, X i ∧ ops[i]? = some o ∧ o.dst = some t ∧ fs[i]? = some x) ∨ ((∀ i o, X i → ops[i]? = some o → o.dst ≠ some t) ∧ x = sget sl t)

theorem cur_text {ops : Array Oper} {m : Nat} {fs : List SV} {sls : List SL} {sl : SL} (hd : DrawOK ops m) (h0 : sls[0]? = some sl)
    (h : ∀ (i : Nat) (o : Oper), i < m → ops[i]? = some o → ∃ s f, sls[i]? = some s ∧ fs[i]? = some f ∧ sls[i + 1]? = some (sput s o.dst f)) :
    ∀ (k : Nat) (s : SL), k ≤ m → sls[k]? = some s → ∀ t, Cur ops fs sl (fun i => i < k) t (sget s t)
  | 0, s, _, hs, t => by rw [h0] at hs; simp only [Option.some.injEq] at hs; subst hs; exact .inr ⟨by simp, rfl⟩
  | k + 1, s, hk, hs, t => by
    have hko : ops[k]? = some (ops[k]'(by have := hd.le; omega)) := Array.getElem?_eq_getElem _
    obtain ⟨s0, f, g1, g2, g3⟩ := h k _ (by omega) hko
    rw [hs] at g3; simp only [Option.some.injEq] at g3; subst g3
    have ih := cur_text hd h0 h k s0 (by omega) g1 t
    generalize ho : ops[k]'(by have := hd.le; omega) = o at *
    cases hdst : o.dst with
    | none =>
      simp only [sput]
      rcases ih with ⟨i, oi, hi, q1, q2, q3⟩ | ⟨q1, q2⟩
      · exact .inl ⟨i, oi, by omega, q1, q2, q3⟩
      · refine .inr ⟨fun i oi hi ho' => ?_, q2⟩
        by_cases hik : i = k
        · subst hik; rw [hko] at ho'; simp only [Option.some.injEq] at ho'; subst ho'; simp [hdst]
        · exact q1 i oi (by omega) ho'
    | some u =>
      simp only [sput, sget]
      by_cases hu : u = t
      · rw [if_pos hu]; subst hu
        exact .inl ⟨k, o, by omega, hko, hdst, g2⟩
      · rw [if_neg hu]
        rcases ih with ⟨i, oi, hi, q1, q2, q3⟩ | ⟨q1, q2⟩
        · exact .inl ⟨i, oi, by omega, q1, q2, q3⟩
        · refine .inr ⟨fun i oi hi ho' => ?_, q2⟩
          by_cases hik : i = k
          · subst hik; rw [hko] at ho'; simp only [Option.some.injEq] at ho'; subst ho'; simp [hdst, hu]
          · exact q1 i oi (by omega) ho'


/-- how many are still to come -/
def left (size : Nat) (listed : Array Bool) : Nat := (List.range size).countP fun i => !(listed.getD i false)
theorem left_set {size i : Nat} {listed : Array Bool} (hs : listed.size = size) (hi : i < size) (h : listed.getD i false = false) : left size (listed.setIfInBounds i true) < left size listed := by
  unfold left
  have hlt : i < listed.size := by omega
  have h1 : ∀ j, (!(listed.setIfInBounds i true).getD j false) = (!(decide (j = i)) && !(listed.getD j false)) := by
    intro j
    by_cases hj : i = j
    · subst hj; simp [hlt]
    · rw [getD_set_ne false hj]; simp [Ne.symm hj]
  simp only [h1]
  have : ∀ l : List Nat, i ∈ l → (l.countP fun j => !(decide (j = i)) && !(listed.getD j false)) < l.countP fun j => !(listed.getD j false) := by
    intro l
    induction l with
    | nil => simp
    | cons a l ih =>
      intro hmem
      have hle : (l.countP fun j => !(decide (j = i)) && !(listed.getD j false)) ≤ l.countP fun j => !(listed.getD j false) := List.countP_mono_left (by intro x _ hx; simp at hx; simp [hx.2])
      simp only [List.countP_cons]
      by_cases ha : a = i
      · subst ha
        simp only [decide_true, Bool.not_true, Bool.false_and, Bool.false_eq_true, if_false, h, Bool.not_false, if_true]
        omega
      · have hmem' : i ∈ l := by simpa [Ne.symm ha] using hmem
        have := ih hmem'
        simp only [ha, decide_false, Bool.not_false, Bool.true_and]
        omega
  exact this _ (List.mem_range.2 hi)

theorem guardV_congr {ops : Array Oper} {o : Oper} {s s' : SL} (h : ∀ j want t, o.guard = some (j, want) → gslot ops j = some t → sget s t = sget s' t) : guardV ops s o = guardV ops s' o := by
  unfold guardV
  cases hg : o.guard with
  | none => rfl
  | some jw =>
    obtain ⟨j, want⟩ := jw
    simp only
    cases hj : gslot ops j with
    | none => rfl
    | some t => simp only [h j want t hg hj]

theorem mem_looksAt_guard {ops : Array Oper} {o : Oper} {j t : Nat} {want : Bool} (hg : o.guard = some (j, want)) (hj : gslot ops j = some t) : t ∈ o.looksAt ops := by
  unfold Oper.looksAt
  simp only [List.mem_append]
  right
  unfold gslot at hj
  rw [hg]; simp [hj]
theorem mem_looksAt_op {ops : Array Oper} {o : Oper} {t : Nat} (h : Operand.tmp t ∈ o.op.operands) : t ∈ o.looksAt ops := by
  unfold Oper.looksAt
  simp only [List.mem_append, List.mem_filterMap]
  left
  exact ⟨.tmp t, by simpa using h, rfl⟩

theorem draw_any {C : Ctx} {ops : Array Oper} {m : Nat} {QQ : Exit → Act → World → Prop} {fs : List SV} {sls : List SL} {K : SL → Boxes → Prop} (hd : DrawOK ops m) (hdst : ∀ o, o ∈ ops.toList → dstOK n o.dst)
    (hK : ∀ sl bx S w β a, K sl bx → St C n S w β a sl bx → QQ .normal a w) (h0 : sls[0]? = some sl)
    (hy : ∀ (i : Nat) (o : Oper), i < m → ops[i]? = some o → ∃ s f, sls[i]? = some s ∧ fs[i]? = some f ∧ Yield P ops s bx o f ∧ sls[i + 1]? = some (sput s o.dst f))
    (hend : ∃ e, sls[m]? = some e ∧ Run P n ops (ops.toList.drop m) e bx K) :
    ∀ (fuel : Nat) (listed : Array Bool) (a : Act) (w : World), listed.size = ops.size → left ops.size listed ≤ fuel →
      (∀ (i : Nat) (o : Oper), ops[i]? = some o → listed.getD i false = true → ∀ e, e ∈ o.after → Region.binds .any e = true → listed.getD e.on false = true) →
      (((∀ i, listed.getD i false = true → i < m) ∧ ∃ S β, Inv C S w β bx ∧ a.tmps.size = n ∧ a.defers = [] ∧ ∀ t x, Cur ops fs sl (fun i => listed.getD i false = true) t x → RepV S w β x (a.tmps.getD t undef)) ∨
       (∃ j, m ≤ j ∧ j ≤ ops.size ∧ (∀ i, listed.getD i false = true ↔ i < j) ∧ ∃ sl' bx' S β, St C n S w β a sl' bx' ∧ Run P n ops (ops.toList.drop j) sl' bx' K)) →
      wpAny P .any ops QQ fuel listed a w := by
  have htext := cur_text (fs := fs) (sls := sls) (sl := sl) hd h0 (fun i o hi ho => by obtain ⟨s, f, a1, a2, _, a3⟩ := hy i o hi ho; exact ⟨s, f, a1, a2, a3⟩)
  have conv : ∀ (listed : Array Bool) (a : Act) (w : World), (∀ i, listed.getD i false = true → i < m) → (∀ i, i < m → listed.getD i false = true) → (∃ S β, Inv C S w β bx ∧ a.tmps.size = n ∧ a.defers = [] ∧ ∀ t x, Cur ops fs sl (fun i => listed.getD i false = true) t x → RepV S w β x (a.tmps.getD t undef)) →
      ∃ sl' bx' S β, St C n S w β a sl' bx' ∧ Run P n ops (ops.toList.drop m) sl' bx' K := by
    rintro listed a w hA hall ⟨S, β, hi, hsz, hdf, hc⟩
    obtain ⟨e, he, hr⟩ := hend
    refine ⟨e, bx, S, β, ⟨hi, hsz, hdf, fun t => hc t _ ?_⟩, hr⟩
    have := htext m e (Nat.le_refl _) he t
    rcases this with ⟨i, o, h1, h2, h3, h4⟩ | ⟨h1, h2⟩
    · exact .inl ⟨i, o, hall i h1, h2, h3, h4⟩
    · exact .inr ⟨fun i o hx => h1 i o (hA i hx), h2⟩
  have hall_of_ready : ∀ listed : Array Bool, listed.size = ops.size → Region.ready .any ops listed = [] → ∀ i, i < ops.size → listed.getD i false = true := by
    intro listed hs hr i
    induction i using Nat.strongRecOn with
    | _ i ih =>
      intro hi
      cases hl : listed.getD i false with
      | true => rfl
      | false =>
        exfalso
        have : i ∈ Region.ready .any ops listed := by
          rw [mem_ready]
          refine ⟨?_, ops[i], Array.getElem?_eq_getElem hi, fun e he hb => ?_⟩
          · have hi' : i < listed.size := by omega
            simp [Array.getD, hi'] at hl ⊢; exact hl
          · have hlt := hd.back i _ (Array.getElem?_eq_getElem hi) e he hb
            exact ih e.on hlt (by omega)
        rw [hr] at this; simp at this
  intro fuel
  induction fuel with
  | zero =>
    intro listed a w hs hleft hdown hinv
    have hall : ∀ i, i < ops.size → listed.getD i false = true := by
      intro i hi
      cases hl : listed.getD i false with
      | true => rfl
      | false =>
        exfalso
        have : 0 < left ops.size listed := by
          unfold left
          rw [List.countP_pos_iff]
          exact ⟨i, List.mem_range.2 hi, by simp [hl]⟩
        omega
    have hready : Region.ready .any ops listed = [] := by
      rw [List.eq_nil_iff_forall_not_mem]
      intro i hi
      rw [mem_ready] at hi
      obtain ⟨h1, o, ho, _⟩ := hi
      have hlt := (Array.getElem?_eq_some_iff.1 ho).1
      have := hall i hlt
      have hi' : i < listed.size := by omega
      simp [Array.getD, hi'] at this h1
      rw [this] at h1; simp at h1
    refine ⟨hready, ?_⟩
    rcases hinv with ⟨hA, hA2⟩ | ⟨j, hj1, hj2, hj3, sl', bx', S, β, hst, hrun⟩
    · have hm : m = ops.size := by
        rcases Nat.lt_or_ge m ops.size with h | h
        · have := hA m (hall m h); omega
        · have := hd.le; omega
      obtain ⟨sl', bx', S, β, hst, hrun⟩ := conv listed a w hA (fun i hi => hall i (by omega)) hA2
      rw [List.drop_eq_nil_of_le (by simp; omega)] at hrun
      exact hK sl' bx' S w β a hrun hst
    · have hj : j = ops.size := by
        rcases Nat.lt_or_ge j ops.size with h | h
        · have := (hj3 j).1 (hall j h); omega
        · omega
      rw [List.drop_eq_nil_of_le (by simp; omega)] at hrun
      exact hK sl' bx' S w β a hrun hst
  | succ fuel ih =>
    intro listed a w hs hleft hdown hinv
    refine ⟨?_, ?_⟩
    · intro hready
      have hall := hall_of_ready listed hs hready
      rcases hinv with ⟨hA, hA2⟩ | ⟨j, hj1, hj2, hj3, sl', bx', S, β, hst, hrun⟩
      · have hm : m = ops.size := by
          rcases Nat.lt_or_ge m ops.size with h | h
          · have := hA m (hall m h); omega
          · have := hd.le; omega
        obtain ⟨sl', bx', S, β, hst, hrun⟩ := conv listed a w hA (fun i hi => hall i (by omega)) hA2
        rw [List.drop_eq_nil_of_le (by simp; omega)] at hrun
        exact hK sl' bx' S w β a hrun hst
      · have hj : j = ops.size := by
          rcases Nat.lt_or_ge j ops.size with h | h
          · have := (hj3 j).1 (hall j h); omega
          · omega
        rw [List.drop_eq_nil_of_le (by simp; omega)] at hrun
        exact hK sl' bx' S w β a hrun hst
    · intro i hi
      rw [mem_ready] at hi
      obtain ⟨hnot, o, ho, hpre⟩ := hi
      have hilt : i < ops.size := (Array.getElem?_eq_some_iff.1 ho).1
      have hil : i < listed.size := by omega
      have hnot' : listed.getD i false = false := by simp [Array.getD, hil] at hnot ⊢; exact hnot
      have hleft' : left ops.size (listed.setIfInBounds i true) ≤ fuel := by have := left_set hs hilt hnot'; omega
      have hX' : ∀ j, (listed.setIfInBounds i true).getD j false = true ↔ (j = i ∨ listed.getD j false = true) := by
        intro j
        by_cases hj : i = j
        · subst hj; simp [hil]
        · rw [getD_set_ne false hj]; simp [Ne.symm hj]
      have hdown' : ∀ (k : Nat) (o' : Oper), ops[k]? = some o' → (listed.setIfInBounds i true).getD k false = true → ∀ e, e ∈ o'.after → Region.binds .any e = true → (listed.setIfInBounds i true).getD e.on false = true := by
        intro k o' ho' hk e he hb
        rw [hX'] at hk ⊢
        rcases hk with rfl | hk
        · rw [ho] at ho'; simp only [Option.some.injEq] at ho'; subst ho'
          exact .inr (hpre e he hb)
        · exact .inr (hdown k o' ho' hk e he hb)
      have hbehind : m ≤ i → ∀ j, j < i → listed.getD j false = true := fun hm => hd.tail _ hdown i o ho hm hpre
      simp only [wpOp, ho]
      have hmemo : o ∈ ops.toList := by have := Array.mem_of_getElem? ho; simpa using this
      -- where the text's run stands
      have stepB : ∀ (sl' : SL) (bx' : Boxes) (S : Nat → Prop) (β : Names), m ≤ i → (∀ k, listed.getD k false = true ↔ k < i) → St C n S w β a sl' bx' → Run P n ops (ops.toList.drop i) sl' bx' K →
          (if Region.wanted o (yielded ops a.tmps) = true then Oper.wp P o a w (wpAny P .any ops QQ fuel (listed.setIfInBounds i true)) QQ ∨ Oper.asks P o a w ∧ LetsOut QQ
           else wpAny P .any ops QQ fuel (listed.setIfInBounds i true) (a.put o.dst undef) w) := by
        intro sl' bx' S β hm hX hst hrun
        have hdrop : ops.toList.drop i = o :: ops.toList.drop (i + 1) := by
          rw [List.drop_eq_getElem_cons (by simpa using hilt)]
          have := (Array.getElem?_eq_some_iff.1 ho).2
          simp [this]
        rw [hdrop] at hrun
        obtain ⟨g, hg, hdo, h1, h2⟩ := hrun
        have hw := guard_rep (a := a) (S := S) (w := w) (β := β) (fun t ht => by
          obtain ⟨j, want, _, hj⟩ := ht
          exact ⟨hst.slot t, by rw [hst.size]; exact dst_lt_of_gslot hdst hj⟩) hg
        rw [hw]
        have hXn : ∀ k, (listed.setIfInBounds i true).getD k false = true ↔ k < i + 1 := by intro k; rw [hX', hX]; omega
        cases g with
        | true =>
          simp only [if_true]
          left
          obtain ⟨r, bx1, pg, hop, hrun'⟩ := h1 rfl
          refine Oper.wp_monoQ (hop C S w β a hst.inv fun x _ => hst.opnd x) ?_
          rintro a' w' ⟨v, S', β', rfl, hi', he, hv, hb⟩
          exact ih _ _ _ (by simpa using hs) hleft' hdown' (.inr ⟨i + 1, by omega, by omega, hXn, _, bx1, S', β', hst.put hdo hi' he hv hb, hrun'⟩)
        | false =>
          simp only [Bool.false_eq_true, if_false]
          exact ih _ _ _ (by simpa using hs) hleft' hdown' (.inr ⟨i + 1, by omega, by omega, hXn, _, bx', S, β, hst.put (pg := []) hdo hst.inv (SExt.refl S w) (.tuple [] [] rfl (by simp)) (fun _ _ => rfl), h2 rfl⟩)
      rcases hinv with ⟨hA, hA2⟩ | ⟨j, hj1, hj2, hj3, sl', bx', S, β, hst, hrun⟩
      · by_cases him : i < m
        · -- one of the first
          obtain ⟨s, f, q1, q2, hyd, q3⟩ := hy i o him ho
          obtain ⟨S, β, hi, hsz, hdf, hc⟩ := hA2
          have harg : ∀ t, t ∈ o.looksAt ops → RepV S w β (sget s t) (a.tmps.getD t undef) := by
            intro t ht
            refine hc t _ ?_
            rcases htext i s (by omega) q1 t with ⟨k, ok, g1, g2, g3, g4⟩ | ⟨g1, g2⟩
            · obtain ⟨_, e, he, hb, hon⟩ := hd.reads i k o ok t him (by omega) ho g2 ht g3
              exact .inl ⟨k, ok, by rw [← hon]; exact hpre e he hb, g2, g3, g4⟩
            · refine .inr ⟨fun k ok hk hok hdk => ?_, g2⟩
              have hkm := hA k hk
              obtain ⟨hki, _⟩ := hd.reads i k o ok t him hkm ho hok ht hdk
              exact g1 k ok hki hok hdk
          have hput : ∀ (S' : Nat → Prop) (w' : World) (v : Value), SExt S w S' w' → RepV S' w' β f v →
              ∀ t x, Cur ops fs sl (fun k => (listed.setIfInBounds i true).getD k false = true) t x → RepV S' w' β x ((a.put o.dst v).tmps.getD t undef) := by
            intro S' w' v he hv t x hcur
            have hdo := hdst o hmemo
            have old : (∀ d, o.dst = some d → d ≠ t) → RepV S' w' β x ((a.put o.dst v).tmps.getD t undef) := by
              intro hne
              have hsame : (a.put o.dst v).tmps.getD t undef = a.tmps.getD t undef := by
                cases hdd : o.dst with
                | none => rfl
                | some d => rw [hdd] at hdo; rw [getD_put (by rw [hsz]; exact hdo), if_neg (hne d hdd)]
              rw [hsame]
              refine (hc t x ?_).ext he (fun _ _ => rfl)
              rcases hcur with ⟨k, ok, g1, g2, g3, g4⟩ | ⟨g1, g2⟩
              · rw [hX'] at g1
                rcases g1 with rfl | g1
                · rw [ho] at g2; simp only [Option.some.injEq] at g2; subst g2
                  exact absurd rfl (hne t g3)
                · exact .inl ⟨k, ok, g1, g2, g3, g4⟩
              · exact .inr ⟨fun k ok hk hok => g1 k ok ((hX' k).2 (.inr hk)) hok, g2⟩
            cases hdd : o.dst with
            | none => rw [← hdd]; exact old (by simp [hdd])
            | some d =>
              by_cases hdt : d = t
              · subst hdt
                rw [hdd] at hdo
                rw [getD_put (by rw [hsz]; exact hdo), if_pos rfl]
                rcases hcur with ⟨k, ok, g1, g2, g3, g4⟩ | ⟨g1, g2⟩
                · rw [hX'] at g1
                  have hki : k = i := by
                    rcases g1 with h | h
                    · exact h
                    · exact hd.uniq k i ok o d (hA k h) him g2 ho g3 hdd
                  subst hki
                  rw [q2] at g4; simp only [Option.some.injEq] at g4; subst g4; exact hv
                · exact absurd hdd (g1 i o ((hX' i).2 (.inl rfl)) ho)
              · rw [← hdd]; exact old (by intro d' hd'; rw [hdd] at hd'; simp only [Option.some.injEq] at hd'; subst hd'; exact hdt)
          have hA' : ∀ k, (listed.setIfInBounds i true).getD k false = true → k < m := by
            intro k hk; rw [hX'] at hk; rcases hk with rfl | hk
            · exact him
            · exact hA k hk
          obtain ⟨g, hg⟩ := hyd.some
          have hw := guard_rep (a := a) (S := S) (w := w) (β := β) (fun t ht => by
            obtain ⟨j, want, hgd, hj⟩ := ht
            exact ⟨harg t (mem_looksAt_guard hgd hj), by rw [hsz]; exact dst_lt_of_gslot hdst hj⟩) hg
          rw [hw]
          cases g with
          | true =>
            simp only [if_true]
            left
            refine Oper.wp_monoQ (hyd.yes hg C S w β a hi fun x hx => ?_) ?_
            · cases x with
              | tmp t => exact harg t (mem_looksAt_op hx)
              | const v => exact repV_const S w β v
              | global g => exact .undef _
              | func f => exact .clo f [] [] rfl (by simp)
            · rintro a' w' ⟨v, S', β', rfl, hi', he, hv, hb⟩
              have hββ : β' = β := funext fun k => hb k (by simp)
              subst hββ
              exact ih _ _ _ (by simpa using hs) hleft' hdown' (.inl ⟨hA', S', β', hi', by cases o.dst <;> simp [Act.put, hsz], by cases o.dst <;> simp [Act.put, hdf], hput S' w' v he hv⟩)
          | false =>
            simp only [Bool.false_eq_true, if_false]
            have hf := hyd.no hg
            exact ih _ _ _ (by simpa using hs) hleft' hdown' (.inl ⟨hA', S, β, hi, by cases o.dst <;> simp [Act.put, hsz], by cases o.dst <;> simp [Act.put, hdf], hput S w undef (SExt.refl S w) (by rw [hf]; exact .tuple [] [] rfl (by simp))⟩)
        · have hbe := hbehind (by omega)
          have him' : i = m := by
            rcases Nat.lt_or_ge m i with h | h
            · have := hA m (hbe m h); omega
            · omega
          subst him'
          obtain ⟨sl', bx', S, β, hst, hrun⟩ := conv listed a w hA hbe hA2
          exact stepB sl' bx' S β (Nat.le_refl _) (fun k => ⟨hA k, hbe k⟩) hst hrun
      · have hij : j ≤ i := by
          rcases Nat.lt_or_ge i j with h | h
          · have := (hj3 i).2 h; rw [hnot'] at this; simp at this
          · exact h
        have hbe := hbehind (by omega)
        have : i = j := by
          rcases Nat.lt_or_ge j i with h | h
          · have := (hj3 j).1 (hbe j h); omega
          · omega
        subst this
        exact stepB sl' bx' S β (by omega) hj3 hst hrun

theorem AWp.regionDraw {id : Nat} {ops : Array Oper} (m : Nat) (B : Array Nat) (ks kb : List Nat) (hm : P.follows .mixedOrders = true) (hc : drawOK ops m B = true) (hd : dstsOK n ops.toList = true)
    (h : QRun P n ops (ops.toList.take m) sl bx fun sl1 => Run P n ops (ops.toList.drop m) sl1 bx fun sl' bx' => Q .normal (keepSl ks sl') (keepBx kb bx')) : AWp P n (.region id ops true) Q sl bx := by
  intro C S w β a hs
  refine wp_region_any hm ?_
  have hdo := drawOK_spec hc
  obtain ⟨fs, sls, q1, q2, q3, q4, q5⟩ := h.yields
  have hlen : (ops.toList.take m).length = m := by have := hdo.le; simp; omega
  rw [hlen] at q4
  refine draw_any (P := P) (sl := sl) (bx := bx) (K := fun sl' bx' => Q .normal (keepSl ks sl') (keepBx kb bx')) hdo (dstsOK_spec hd) (fun sl' bx' S' w' β' a' hK hs' => ⟨_, _, S', β', hK, hs'.keep ks kb⟩) q3 (fs := fs) (sls := sls) ?_ q4
    ops.size _ a _ (by simp) ?_ ?_ (.inl ⟨?_, S, β, ?_, hs.size, hs.defers, ?_⟩)
  · intro i o hi ho
    exact q5 i o (by rw [List.getElem?_take, if_pos hi]; simpa using ho)
  · unfold left
    exact Nat.le_trans (List.countP_le_length) (by simp)
  · intro i o ho hx
    simp [Array.getD] at hx
  · intro i hx
    simp [Array.getD] at hx
  · exact (hs.inv.grow (w' := { w with drawn := w.drawn + 1 }) (fun _ h => h) (fun _ h => .inl h) hs.inv.Slt (fun _ _ => rfl) rfl rfl rfl (Nat.le_refl _)).1
  · intro t x hcur
    rcases hcur with ⟨i, o, h1, _⟩ | ⟨_, h2⟩
    · simp [Array.getD] at h1
    · rw [h2]; exact (hs.slot t).ext ⟨fun _ h => h, fun _ _ => rfl⟩ (fun _ _ => rfl)

end Go.Abs
