/- Closures, slices of one's own slices, calls that change a box of the caller's. Own framework, part R. -/
import Derived.Test.YtibfepggadjjgaaAbsQ
namespace Go.Abs
open Go

variable {P : Program} {o : Oper} {ρ : Rho} {bx : Boxes}

theorem opT_makeFunc {f : FuncId} {caps : Array Operand} (ho : o.op = .makeFunc (.func f) #[] caps) : OpT P o ρ bx (.clo f (caps.toList.map ρ)) bx [] := by
  refine OpT.of_value fun C S w β a hi ha => ?_
  refine ⟨.func (.func f) #[] (caps.map a.eval), by simp [execOp, ho, Instr.makeFunc], ?_⟩
  have := RepL.evals (ρ := ρ) (S := S) (w := w) (β := β) (a := a) caps.toList fun x hx => ha x (mo ho (by simp [Op.operands]; simpa using hx))
  have h2 : caps.map a.eval = ⟨caps.toList.map a.eval⟩ := by apply Array.ext'; simp
  rw [h2]
  exact .clo f _ _ this.1 this.2

/-- the front cut off a slice of one's own -/
theorem opT_sliceAcc {T e sz k : Nat} {x y : Operand} (ho : o.op = .slice T x (some y) none none) (hkf : k ≤ 999999) {rs : List (List D)} {ik : IntKind} {i : Int} (hx : ρ x = .acc k) (hb : (k, BoxC.rows sz rs) ∈ bx)
    (hy : ρ y = .d (.int ik i)) (hT : selem P T = some e) (hs : tsize P e = some sz) (h0 : 0 ≤ i) (h1 : i ≤ rs.length) :
    OpT P o ρ bx (.acc k) ((k, .rows sz (rs.drop i.toNat)) :: bpurge k (berase k bx)) [k] := by
  intro C S w β a hi ha
  have hx1 := ha x (mo ho (by simp [Op.operands])); rw [hx] at hx1
  have hv : a.eval x = sval (β k) := by generalize a.eval x = v at hx1; cases hx1; rfl
  have hy1 := ha y (mo ho (by simp [Op.operands])); rw [hy] at hy1
  have hyv : a.eval y = .int ik i := hy1.inv_int
  obtain ⟨q1, q2, q3, q4, q5, q6, q7⟩ := hi.box k _ hb
  let i' : BI := { β k with off := if (β k).cap = i.toNat then (β k).off else (β k).off + i.toNat, len := (β k).len - i.toNat, cap := (β k).cap - i.toNat }
  have hi1 : i.toNat ≤ (β k).len := by omega
  obtain ⟨h1, h2⟩ := hi.setNew (k := k) (w' := w) (c := .rows sz (rs.drop i.toNat)) i' hkf
    (fun b hb' => ⟨(hi.priv k _ hb b hb').1, (hi.priv k _ hb b hb').2.1, .inr ⟨_, hb, hb'⟩⟩) (fun _ _ _ => rfl) rfl rfl rfl (Nat.le_refl _) (fun _ => by
      refine ⟨q1, by simp [i', q2], by simp only [i']; omega, by simp; omega, fun row h => q5 row (List.mem_of_mem_drop h), fun row h => q6 row (List.mem_of_mem_drop h), ?_⟩
      show match (β k).base with | none => _ | some b => _
      cases hbase : (β k).base with
      | none => rw [hbase] at q7; simp only [i']; simp only at q7; omega
      | some b =>
        rw [hbase] at q7
        obtain ⟨ty, vs, g1, g2, g3⟩ := q7
        refine ⟨ty, vs, g1, ?_, ?_⟩
        · simp only [i']
          split
          · rename_i hc; rw [hc, Nat.sub_self, Nat.add_zero]
            exact Nat.le_trans (Nat.mul_le_mul_right _ (by omega)) g2
          · rw [show (β k).off + i.toNat + ((β k).cap - i.toNat) = (β k).off + (β k).cap by omega]; exact g2
        · intro r j row d v hr hd hv
          rw [List.getElem?_drop] at hr
          have hlt := (List.getElem?_eq_some_iff.1 hr).1
          refine g3 (i.toNat + r) j row d v hr hd ?_
          rw [← hv]
          simp only [i']
          rw [if_neg (by omega), Nat.add_assoc])
  unfold Oper.wp
  have hrun : (execOp a.eval o).run P w = .ok (.value (sval i')) w := by
    have hT' := run_selem hT w
    have hlen : (β k).cap = i.toNat → (β k).len = i.toNat := fun h => by omega
    simp only [execOp, ho, Instr.sliceAt, hv, hyv, sval, Sem.run_bind, hT', Result.andThen_ok, Instr.slice, Instr.sliceBounds, Instr.sliceBound, Sem.run_pure, Option.map_some, Option.map_none, asIntOf, run_sizeOf' hs]
    rw [if_pos ⟨h0, by omega⟩]
    simp only [Sem.run_pure, Result.andThen_ok, Result.ok.injEq, Next.value.injEq, Value.slice.injEq, and_true, i']
    split
    · rfl
    · cases (β k).base with
      | none => rfl
      | some b => simp [Addr.add, q1, Nat.add_mul]
  rw [hrun]
  refine ⟨_, S, _, rfl, h1, h2, ?_, fun j hj => upd_ne (by simpa using hj)⟩
  have := RepV.acc (S := S) (w := w) (β := upd β k i') k
  rw [upd_same] at this
  exact this

/-! calls that change a box -/
def BoxC.closed : BoxC → Bool
  | .cells cs => SV.closedAll cs
  | _ => true
def lend1 (k j : Nat) : SV → Option SV
  | .mp i => if i = k then some (.mp j) else none
  | .box i off => if i = k then some (.box j off) else none
  | x => coerce [] x
def lendL (k j : Nat) : List SV → Option (List SV)
  | [] => some []
  | c :: cs => match lend1 k j c with
    | some x => match lendL k j cs with
      | some l => some (x :: l)
      | none => none
    | none => none
theorem lendL_rep {C : Ctx} {S : Nat → Prop} {w : World} {β : Names} {k j : Nat} (hi : Inv C S w β []) : ∀ {cs l : List SV} {vs : List Value}, lendL k j cs = some l → RepL S w β cs vs → RepL S w (upd β j (β k)) l vs
  | [], l, vs, h, hv => by
    simp only [lendL, Option.some.injEq] at h; subst h
    exact ⟨hv.1, by simp⟩
  | c :: cs, l, vs, h, hv => by
    simp only [lendL] at h
    cases hc : lend1 k j c with
    | none => simp [hc] at h
    | some x =>
      cases hl : lendL k j cs with
      | none => simp [hc, hl] at h
      | some m =>
        simp only [hc, hl, Option.some.injEq] at h; subst h
        cases vs with
        | nil => have := hv.1; simp at this
        | cons v vs =>
          have q := lendL_rep hi hl ⟨by have := hv.1; simpa using this, fun i c v hc hv' => hv.2 (i + 1) c v (by simpa using hc) (by simpa using hv')⟩
          have h1 := hv.2 0 c v rfl rfl
          refine .cons ?_ q
          unfold lend1 at hc
          split at hc
          · split at hc
            · simp only [Option.some.injEq] at hc; subst hc; subst_vars
              cases h1 with | mp _ b hb => exact .mp j b (by rw [upd_same]; exact hb)
            · simp at hc
          · split at hc
            · simp only [Option.some.injEq] at hc; subst hc; subst_vars
              cases h1 with | box _ _ b hb => exact .box j _ b (by rw [upd_same]; exact hb)
            · simp at hc
          · obtain ⟨p1, p2⟩ := coerce_rep hi (SExt.refl S w) (by simp) hc h1
            exact p1.closed p2

theorem BoxOK.closed {S : Nat → Prop} {w : World} {β β' : Names} {i i' : BI} {c : BoxC} (hr : ∀ sz rs, c ≠ .rows sz rs) (h : BoxOK S w β i c) (hc : c.closed = true) (he : i'.base = i.base) : BoxOK S w β' i' c := by
  cases c with
  | rows sz rs => exact (hr sz rs rfl).elim
  | cells cs =>
    obtain ⟨b, ty, vs, h1, h2, h3⟩ := h
    refine ⟨b, ty, vs, by rw [he]; exact h1, h2, h3.1, fun j c v hc' hv => (h3.2 j c v hc' hv).closed (SV.closedAll_true hc j c hc')⟩
  | map kvs =>
    obtain ⟨b, es, clock, h1, h2, h3, h4⟩ := h
    exact ⟨b, es, clock, by rw [he]; exact h1, h2, h3, h4⟩

theorem opT_callBox {f : FuncId} {fo : Operand} {args : Array Operand} {tys : Array TypeId} (ho : o.op = .call { callee := .value fo, args := args, argTypes := tys }) {caps args' : List SV} {r : SV} {k j : Nat} {c c' : BoxC}
    (hf : ρ fo = .clo f caps) (hb : (k, c) ∈ bx) (hj : 1000000 ≤ j) (hn : ∀ sz rs, c ≠ .rows sz rs) (hn' : ∀ sz rs, c' ≠ .rows sz rs) (hcc : c.closed = true) (hcc' : c'.closed = true)
    (hargs : lendL k j (args.toList.map ρ ++ caps) = some args') (hc : CallB P f args' [(j, c)] r [(j, c')]) (hr : r.closed = true) : OpT P o ρ bx r ((k, c') :: berase k bx) [] := by
  intro C S w β a hi ha
  have hf1 := (ha fo (mo ho (by simp [Op.operands, Call.operands]))); rw [hf] at hf1
  generalize hfv : a.eval fo = v at hf1
  cases hf1 with
  | clo _ _ cs h1 h2 =>
    have hall : RepL S w β (args.toList.map ρ ++ caps) (args.toList.map a.eval ++ cs) := (RepL.evals _ fun x hx => ha x (mo ho (by simp [Op.operands, Call.operands]; simp at hx; exact .inr hx))).append ⟨h1, h2⟩
    have hin0 : Inv ⟨w, S, fun _ => False, fun _ _ => False⟩ S w β [] := hi.begin hi.Slt
    have g1 := lendL_rep (j := j) hin0 hargs hall
    obtain ⟨b, hbase⟩ : ∃ b, (β k).base = some b := by
      have := hi.box k c hb
      cases c with
      | rows sz rs => exact (hn sz rs rfl).elim
      | cells cs => obtain ⟨b, _, _, h, _⟩ := this; exact ⟨b, h⟩
      | map kvs => obtain ⟨b, _, _, h, _⟩ := this; exact ⟨b, h⟩
    have hp := hi.priv k c hb b hbase
    have hin : Inv ⟨w, S, fun i => i = b, fun i b' => i = j ∧ b' = b⟩ S w (upd β j (β k)) [(j, c)] := {
      S0sub := fun _ h => h
      Snew := fun _ h => .inl h
      Slt := hi.Slt
      kept := fun _ _ _ => rfl
      os := rfl
      tape := rfl
      output := rfl
      size := Nat.le_refl _
      box := fun k' c'' hk' => by
        simp only [List.mem_cons, Prod.mk.injEq, List.not_mem_nil, or_false] at hk'
        obtain ⟨rfl, rfl⟩ := hk'
        rw [upd_same]
        exact (hi.box k _ hb).closed hn hcc rfl
      priv := fun k' c'' hk' b' hb' => by
        simp only [List.mem_cons, Prod.mk.injEq, List.not_mem_nil, or_false] at hk'
        obtain ⟨rfl, rfl⟩ := hk'
        rw [upd_same, hbase] at hb'; cases hb'
        exact ⟨hp.1, hp.2.1, .inl rfl⟩
      inj := fun k1 c1 k2 c2 h1 h2 b' hb1 hb2 => by
        simp only [List.mem_cons, Prod.mk.injEq, List.not_mem_nil, or_false] at h1 h2
        obtain ⟨rfl, rfl⟩ := h1
        obtain ⟨rfl, rfl⟩ := h2
        exact ⟨rfl, rfl⟩
      fix := fun k' b' h => by
        obtain ⟨rfl, rfl⟩ := h
        exact ⟨hj, by rw [upd_same]; exact hbase⟩ }
    have hcall := hc.2 ⟨w, S, fun i => i = b, fun i b' => i = j ∧ b' = b⟩ _ _ hin g1
    unfold Oper.wp
    rw [run_enter hc.1 ho hfv, Oper.upon_enter]
    have hargsEq : args.map a.eval ++ (⟨cs⟩ : Array Value) = ⟨args.toList.map a.eval ++ cs⟩ := by apply Array.ext'; simp
    rw [hargsEq]
    refine hcall.mono ?_
    rintro e w' ⟨v, S', β', rfl, hk, hv⟩
    have hfix := (hk.fix j b ⟨rfl, rfl⟩).2
    have hpk := hk.priv j c' (by simp) b hfix
    have hkept : ∀ b', b' < w.heap.size → b' ≠ b → w'.heap[b']? = w.heap[b']? := fun b' h1 h2 => hk.kept b' h1 h2
    have e1 : SExt S w (fun b => S b ∨ (S' b ∧ w.heap.size ≤ b)) w' := ⟨fun _ h => .inl h, fun b' hb' => hkept b' (hi.Slt b' hb') fun he => hp.1 (he ▸ hb')⟩
    have e2 : SExt S' w' (fun b => S b ∨ (S' b ∧ w.heap.size ≤ b)) w' := ⟨fun b' hb' => by
      rcases hk.Snew b' hb' with h | h | h
      · exact .inl h
      · exact (hpk.1 (h ▸ hb')).elim
      · exact .inr ⟨hb', h⟩, fun _ _ => rfl⟩
    have hsz : w.heap.size ≤ w'.heap.size := hk.size
    refine ⟨v, _, β, rfl, ?_, e1, (hv.ext e2 (fun _ _ => rfl)).closed hr, fun _ _ => rfl⟩
    refine hi.step e1 (fun b' hb' => hb'.imp id (·.2)) ?_ (fun b' hb' hn' => hkept b' hb' fun he => hn' k c hb (by rw [hbase, he])) hk.os hk.tape hk.output hsz ?_ ?_ (fun _ _ => rfl)
    · intro b' hb'
      rcases hb' with hb' | hb'
      · have := hi.Slt b' hb'; omega
      · exact hk.Slt b' hb'.1
    · intro k' c'' hk'
      simp only [List.mem_cons, Prod.mk.injEq] at hk'
      rcases hk' with ⟨rfl, rfl⟩ | hk'
      · refine ⟨(BoxOK.ext (hk.box j _ (by simp)) e2 (fun _ _ => rfl) (fun _ _ => rfl)).closed hn' hcc' (by rw [hbase, hfix]), fun b' hb' => ?_⟩
        rw [hbase] at hb'; cases hb'
        exact ⟨fun h => h.elim hp.1 fun h => hpk.1 h.1, by omega, .inr ⟨_, c, hb, hbase⟩⟩
      · obtain ⟨hne, hk'⟩ := mem_berase.1 hk'
        refine ⟨(hi.box k' c'' hk').ext e1 (fun b' hb' => ?_) (fun _ _ => rfl), fun b' hb' => ?_⟩
        · exact hkept b' (hi.priv k' c'' hk' b' hb').2.1 fun he => hne (hi.inj k' c'' k c hk' hb b' hb' (by rw [hbase, he])).1
        · obtain ⟨p1, p2, _⟩ := hi.priv k' c'' hk' b' hb'
          exact ⟨fun h => h.elim p1 fun h => by omega, by omega, .inr ⟨k', c'', hk', hb'⟩⟩
    · intro k1 c1 k2 c2 h1 h2 b' hb1 hb2
      simp only [List.mem_cons, Prod.mk.injEq] at h1 h2
      rcases h1 with ⟨rfl, rfl⟩ | h1
      · rcases h2 with ⟨rfl, rfl⟩ | h2
        · exact ⟨rfl, rfl⟩
        · obtain ⟨hne, h2⟩ := mem_berase.1 h2
          exact absurd (hi.inj k2 c2 _ c h2 hb b' hb2 hb1).1 hne
      · rcases h2 with ⟨rfl, rfl⟩ | h2
        · obtain ⟨hne, h1⟩ := mem_berase.1 h1
          exact absurd (hi.inj k1 c1 _ c h1 hb b' hb1 hb2).1 hne
        · obtain ⟨hne, h1⟩ := mem_berase.1 h1
          obtain ⟨_, h2⟩ := mem_berase.1 h2
          exact hi.inj k1 c1 k2 c2 h1 h2 b' hb1 hb2
/-! parts of slices and strings -/
def loN (ρ : Rho) : Option Operand → Option Nat
  | none => some 0
  | some y => match ρ y with
    | .d (.int _ i) => if 0 ≤ i then some i.toNat else none
    | _ => none
def hiN (ρ : Rho) (n : Nat) : Option Operand → Option Nat
  | none => some n
  | some y => match ρ y with
    | .d (.int _ i) => if 0 ≤ i then some i.toNat else none
    | _ => none
theorem run_bounds {S : Nat → Prop} {w : World} {β : Names} {a : Act} {lo hi : Option Operand} {n cap l h : Nat} {t : Bool} (ha : ∀ x, x ∈ lo.toList ++ hi.toList → RepV S w β (ρ x) (a.eval x)) (hlo : loN ρ lo = some l) (hhi : hiN ρ n hi = some h) (h1 : l ≤ h) (h2 : h ≤ n) (h3 : n ≤ cap) :
    (Instr.sliceBounds t n cap (lo.map a.eval) (hi.map a.eval) none).run P w = .ok (l, h, cap) w := by
  have key : ∀ (y : Operand) (m : Nat), RepV S w β (ρ y) (a.eval y) → (match ρ y with | .d (.int _ i) => if 0 ≤ i then some i.toNat else none | _ => none) = some m → ∃ k, a.eval y = .int k (m : Int) := by
    intro y m hv hm
    split at hm
    · rename_i k i he
      rw [he] at hv
      split at hm
      · rename_i h0
        simp only [Option.some.injEq] at hm
        subst hm
        exact ⟨k, by rw [hv.inv_int, Int.toNat_of_nonneg h0]⟩
      · simp at hm
    · simp at hm
  have b1 : ∀ (k : IntKind) (m q : Nat) (code : BoundsCode), m ≤ q → (Instr.sliceBound (.int k (m : Int)) q code).run P w = .ok m w := by
    intro k m q code hq
    simp only [Instr.sliceBound, asIntOf, Sem.run_bind, Sem.run_pure, Result.andThen_ok]
    rw [if_pos ⟨by omega, by omega⟩]; simp
  cases hi with
  | none =>
    simp only [hiN, Option.some.injEq] at hhi
    subst hhi
    cases lo with
    | none =>
      simp only [loN, Option.some.injEq] at hlo
      subst hlo
      simp [Instr.sliceBounds]
    | some y =>
      obtain ⟨k, hk⟩ := key y l (ha y (by simp)) (by simpa [loN] using hlo)
      simp [Instr.sliceBounds, hk, b1 k l n _ h1]
  | some z =>
    obtain ⟨k', hk'⟩ := key z h (ha z (by simp)) (by simpa [hiN] using hhi)
    cases lo with
    | none =>
      simp only [loN, Option.some.injEq] at hlo
      subst hlo
      simp [Instr.sliceBounds, hk', b1 k' h cap _ (by omega)]
    | some y =>
      obtain ⟨k, hk⟩ := key y l (ha y (by simp)) (by simpa [loN] using hlo)
      simp [Instr.sliceBounds, hk, hk', b1 k l h _ h1, b1 k' h cap _ (by omega)]

theorem opT_cutSlice {T e sz : Nat} {x : Operand} {lo hi : Option Operand} (ho : o.op = .slice T x lo hi none) {rows : List (List D)} (hx : ρ x = .d (.slice rows)) (hT : selem P T = some e) (hs : tsize P e = some sz)
    (hrow : ∀ row, row ∈ rows → row.length = sz) {l h : Nat} (hlo : loN ρ lo = some l) (hhi : hiN ρ rows.length hi = some h) (h1 : l ≤ h) (h2 : h ≤ rows.length) : OpT P o ρ bx (.d (.slice ((rows.take h).drop l))) bx [] := by
  refine .of_value fun C S w β a hinv ha => ?_
  have hx1 := ha x (mo ho (by simp [Op.operands])); rw [hx] at hx1
  have hbounds : ∀ cap, rows.length ≤ cap → (Instr.sliceBounds true rows.length cap (lo.map a.eval) (hi.map a.eval) none).run P w = .ok (l, h, cap) w := fun cap hc =>
    run_bounds (ρ := ρ) (S := S) (β := β) (fun y hy => ha y (mo ho (by
      simp only [Op.operands]
      rcases List.mem_append.1 hy with hy | hy <;> simp only [Option.mem_toList] at hy <;> subst hy <;> simp))) hlo hhi h1 h2 hc
  have hT' := run_selem hT w
  have run : ∀ (p : Option Addr) (cap : Nat), rows.length ≤ cap → a.eval x = .slice p rows.length cap → (execOp a.eval o).run P w = .ok (.value (.slice (if cap = l then p else p.map (·.add (l * sz))) (h - l) (cap - l))) w := by
    intro p cap hc hv
    simp only [execOp, ho, Instr.sliceAt, hv, Sem.run_bind, hT', Result.andThen_ok, Instr.slice, Option.map_none, hbounds cap hc, run_sizeOf' hs, Sem.run_pure]
  generalize hv : a.eval x = v at hx1
  have hd := hx1.inv_d
  have hlen : ((rows.take h).drop l).length = h - l := by simp; omega
  cases hd with
  | slice0 p cap hp =>
    have := run p cap (by simp) (by rw [hv]; rfl)
    simp only [List.length_nil, Nat.le_zero] at h2
    subst h2
    have hl0 : l = 0 := by omega
    subst hl0
    refine ⟨_, this, .d _ _ ?_⟩
    simp only [List.take_nil, List.drop_nil, Nat.sub_zero, Nat.zero_mul]
    have hpp : (if cap = 0 then p else p.map (·.add 0)) = p := by
      split
      · rfl
      · cases p <;> simp [Addr.add]
    rw [hpp]
    exact .slice0 p cap hp
  | slice _ b off cap sz' hb hl1 hl2 hr hone hcell hrep =>
    have := run (some ⟨b, off, none⟩) cap hl2 hv
    refine ⟨_, this, .d _ _ ?_⟩
    by_cases he : h = l
    · subst he
      have : (rows.take h).drop h = [] := List.eq_nil_of_length_eq_zero (by rw [hlen]; omega)
      rw [this, Nat.sub_self]
      have hsome : ∃ q, (if cap = h then (some ⟨b, off, none⟩ : Option Addr) else (some ⟨b, off, none⟩ : Option Addr).map (·.add (h * sz))) = some q := by split <;> exact ⟨_, rfl⟩
      obtain ⟨q, hq⟩ := hsome
      rw [hq]
      exact .slice0 (some q) _ (by simp)
    · have hlt : l < rows.length := by omega
      have hsz : sz' = sz := by rw [← hr rows[l] (List.getElem_mem hlt), hrow rows[l] (List.getElem_mem hlt)]
      subst hsz
      rw [if_neg (by omega)]
      simp only [Option.map_some, add_addr]
      rw [← hlen]
      have hget : ∀ (i : Nat) (row : List D), ((rows.take h).drop l)[i]? = some row → rows[l + i]? = some row := by
        intro i row hi'
        rw [List.getElem?_drop] at hi'
        have hlt := (List.getElem?_eq_some_iff.1 hi').1
        rw [List.length_take] at hlt
        rw [List.getElem?_take_of_lt (by omega)] at hi'
        exact hi'
      have hmem : ∀ row, row ∈ (rows.take h).drop l → row ∈ rows := fun row hm => List.mem_of_mem_take (List.mem_of_mem_drop hm)
      refine .slice _ b (off + l * sz') (cap - l) sz' hb (by omega) (by omega) (fun row hm => hr row (hmem row hm)) (fun row hm => hone row (hmem row hm)) ?_ ?_
      · intro i j hi' hj
        have := hcell (l + i) j (by omega) hj
        rw [Nat.add_mul] at this
        rw [show off + l * sz' + (i * sz' + j) = off + (l * sz' + i * sz' + j) by omega]
        exact this
      · intro i j row d v hi' hd hv
        refine hrep (l + i) j row d v (hget i row hi') hd ?_
        rw [Nat.add_mul]
        rw [show off + l * sz' + (i * sz' + j) = off + (l * sz' + i * sz' + j) by omega] at hv
        exact hv
theorem opT_cutStr {T : Nat} {x : Operand} {lo hi : Option Operand} (ho : o.op = .slice T x lo hi none) {s : Str} (hx : ρ x = .d (.str s)) (hT : P.underlying T = some .string)
    {l h : Nat} (hlo : loN ρ lo = some l) (hhi : hiN ρ s.length hi = some h) (h1 : l ≤ h) (h2 : h ≤ s.length) : OpT P o ρ bx (.d (.str ((s.take h).drop l))) bx [] := by
  refine .of_value fun C S w β a hinv ha => ?_
  have hx1 := ha x (mo ho (by simp [Op.operands])); rw [hx] at hx1
  obtain ⟨hv, hsl⟩ := hx1.inv_str
  have hb := run_bounds (P := P) (t := false) (n := s.length) (cap := s.length) (w := w) (a := a) (ρ := ρ) (S := S) (β := β) (fun y hy => ha y (mo ho (by
      simp only [Op.operands]
      rcases List.mem_append.1 hy with hy | hy <;> simp only [Option.mem_toList] at hy <;> subst hy <;> simp))) hlo hhi h1 h2 (Nat.le_refl _)
  have hu := run_underlying hT w
  have hsz : (mkStr s).size = s.length := mkStr_size s
  refine ⟨.string (mkStr ((s.take h).drop l)), ?_, .d _ _ (.str _ ?_)⟩
  · have hex : (mkStr s).extract l h = mkStr ((s.take h).drop l) := by
      apply ByteArray.ext
      rw [ByteArray.data_extract]
      apply Array.ext'
      simp [mkStr, List.drop_take, List.extract_eq_take_drop]
      try (congr 1; omega)
    simp only [execOp, ho, Instr.sliceAt, hv, Sem.run_bind, hu, Result.andThen_ok, Instr.slice, Option.map_none, Option.isSome_none, Bool.false_eq_true, if_false, Sem.run_pure, hsz, hb, hex]
  · simp only [List.length_drop, List.length_take]; omega

end Go.Abs
