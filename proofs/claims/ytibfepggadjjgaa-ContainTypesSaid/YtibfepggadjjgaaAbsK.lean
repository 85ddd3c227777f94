/- A frame's slots; code on abstract states. Own framework, part K. -/
import Derived.Test.YtibfepggadjjgaaAbsJ
import Derived.Deep.LoopGhost
namespace Go.Abs
open Go

variable {P : Program}

abbrev SL := List (Nat × SV)

def sget : SL → Nat → SV
  | [], _ => .undef
  | (u, x) :: r, t => if u = t then x else sget r t

def opnd (sl : SL) : Operand → SV
  | .tmp t => sget sl t
  | .const v => constSV v
  | .func f => .clo f []
  | .global _ => .undef

def sput (sl : SL) (dst : Option Nat) (r : SV) : SL :=
  match dst with
  | some t => (t, r) :: sl
  | none => sl

def purge1 (k : Nat) : SL → SL
  | [] => []
  | (t, x) :: r => (t, spurge k x) :: purge1 k r
def purgeSl : List Nat → SL → SL
  | [], sl => sl
  | k :: ks, sl => purgeSl ks (purge1 k sl)

theorem sget_purge1 (k : Nat) : ∀ (sl : SL) (t : Nat), sget (purge1 k sl) t = spurge k (sget sl t)
  | [], t => by simp [purge1, sget, spurge, SV.has]
  | (u, x) :: r, t => by
    simp only [purge1, sget]
    split
    · rfl
    · exact sget_purge1 k r t

def dstOK (n : Nat) (dst : Option Nat) : Prop :=
  match dst with
  | some t => t < n
  | none => True

structure St (C : Ctx) (n : Nat) (S : Nat → Prop) (w : World) (β : Names) (a : Act) (sl : SL) (bx : Boxes) : Prop where
  inv : Inv C S w β bx
  size : a.tmps.size = n
  defers : a.defers = []
  slot : ∀ t, RepV S w β (sget sl t) (a.tmps.getD t undef)

theorem St.opnd {C : Ctx} {n : Nat} {S : Nat → Prop} {w : World} {β : Names} {a : Act} {sl : SL} {bx : Boxes} (h : St C n S w β a sl bx) (x : Operand) : RepV S w β (opnd sl x) (a.eval x) := by
  cases x with
  | tmp t => exact h.slot t
  | const v => exact repV_const S w β v
  | global g => exact .undef _
  | func f => exact .clo f [] [] rfl (by simp)

theorem getD_put {a : Act} {t u : Nat} {v : Value} (h : t < a.tmps.size) : (a.put (some t) v).tmps.getD u undef = if t = u then v else a.tmps.getD u undef := by
  simp only [Act.put, Array.getD_eq_getD_getElem?, Array.getElem?_setIfInBounds]
  split
  · subst_vars; simp [h]
  · rfl

theorem St.put {C : Ctx} {n : Nat} {S S' : Nat → Prop} {w w' : World} {β β' : Names} {a : Act} {sl : SL} {bx bx' : Boxes} {dst : Option Nat} {v : Value} {r : SV} {pg : List Nat} (h : St C n S w β a sl bx) (hd : dstOK n dst)
    (hi : Inv C S' w' β' bx') (he : SExt S w S' w') (hr : RepV S' w' β' r v) (hb : ∀ k, k ∉ pg → β' k = β k) : St C n S' w' β' (a.put dst v) (sput (purgeSl pg sl) dst r) bx' := by
  have hpg : ∀ (ks : List Nat) (sl : SL) (t : Nat) (u : Value), RepV S w β (sget sl t) u → (∀ k, (sget (purgeSl ks sl) t).has k = true → k ∉ ks ∧ (sget sl t).has k = true) ∧ RepV S w β (sget (purgeSl ks sl) t) u := by
    intro ks
    induction ks with
    | nil => intro sl t u hu; exact ⟨fun k hk => ⟨by simp, hk⟩, hu⟩
    | cons k ks ih =>
      intro sl t u hu
      have hp : RepV S w β (sget (purge1 k sl) t) u := by
        rw [sget_purge1]; unfold spurge
        split
        · exact .undef _
        · exact hu
      obtain ⟨h1, h2⟩ := ih (purge1 k sl) t u hp
      refine ⟨fun j hj => ?_, h2⟩
      obtain ⟨g1, g2⟩ := h1 j hj
      rw [sget_purge1] at g2
      unfold spurge at g2
      split at g2
      · simp [SV.has] at g2
      · rename_i hk
        refine ⟨?_, g2⟩
        simp only [List.mem_cons, not_or]
        refine ⟨?_, g1⟩
        intro he; subst he; exact hk g2
  have hold : ∀ t, RepV S' w' β' (sget (purgeSl pg sl) t) (a.tmps.getD t undef) := by
    intro t
    obtain ⟨h1, h2⟩ := hpg pg sl t _ (h.slot t)
    exact h2.ext he fun k hk => hb k (h1 k hk).1
  cases dst with
  | none => exact ⟨hi, h.size, h.defers, hold⟩
  | some d =>
    refine ⟨hi, by simp [Act.put, h.size], h.defers, ?_⟩
    intro t
    rw [getD_put (by rw [h.size]; exact hd)]
    simp only [sput, sget]
    split
    · exact hr
    · exact hold t

/-- code, said of abstract states -/
def AWp (P : Program) (n : Nat) (c : Code) (Q : Exit → SL → Boxes → Prop) (sl : SL) (bx : Boxes) : Prop :=
  ∀ (C : Ctx) (S : Nat → Prop) (w : World) (β : Names) (a : Act), St C n S w β a sl bx →
    c.wp P (fun e a' w' => ∃ sl' bx' S' β', Q e sl' bx' ∧ St C n S' w' β' a' sl' bx') a w

variable {n : Nat} {Q : Exit → SL → Boxes → Prop} {sl : SL} {bx : Boxes}

theorem AWp.mono {c : Code} {Q' : Exit → SL → Boxes → Prop} (h : AWp P n c Q sl bx) (hq : ∀ e sl bx, Q e sl bx → Q' e sl bx) : AWp P n c Q' sl bx :=
  fun C S w β a hs => wp_mono (h C S w β a hs) fun _ _ _ ⟨sl', bx', S', β', q, r⟩ => ⟨sl', bx', S', β', hq _ _ _ q, r⟩

theorem AWp.skip (h : Q .normal sl bx) : AWp P n .skip Q sl bx := fun _ S _ β _ hs => wp_skip ⟨sl, bx, S, β, h, hs⟩
theorem AWp.ret (h : Q .ret sl bx) : AWp P n .ret Q sl bx := fun _ S _ β _ hs => wp_ret ⟨sl, bx, S, β, h, hs⟩
theorem AWp.exit {id : Nat} (h : Q (.exit id) sl bx) : AWp P n (.exit id) Q sl bx := fun _ S _ β _ hs => wp_exit ⟨sl, bx, S, β, h, hs⟩

def thenA (K : SL → Boxes → Prop) (Q : Exit → SL → Boxes → Prop) : Exit → SL → Boxes → Prop
  | .normal, sl, bx => K sl bx
  | e, sl, bx => Q e sl bx
def blockA (id : Nat) (Q : Exit → SL → Boxes → Prop) : Exit → SL → Boxes → Prop
  | .exit id', sl, bx => if id' = id then Q .normal sl bx else Q (.exit id') sl bx
  | e, sl, bx => Q e sl bx

theorem AWp.seq {x y : Code} (h : AWp P n x (thenA (AWp P n y Q) Q) sl bx) : AWp P n (.seq x y) Q sl bx := by
  intro C S w β a hs
  refine wp_seq (wp_mono (h C S w β a hs) ?_)
  rintro e a' w' ⟨sl', bx', S', β', q, r⟩
  cases e with
  | normal => exact q C S' w' β' a' r
  | _ => exact ⟨sl', bx', S', β', q, r⟩

theorem AWp.block {id : Nat} {c : Code} (h : AWp P n c (blockA id Q) sl bx) : AWp P n (.block id c) Q sl bx := by
  intro C S w β a hs
  refine wp_block (wp_mono (h C S w β a hs) ?_)
  rintro e a' w' ⟨sl', bx', S', β', q, r⟩
  cases e with
  | exit id' =>
    simp only [blockA] at q
    simp only [Exit.inBlock]
    split
    · rw [if_pos (by assumption)] at q; exact ⟨sl', bx', S', β', q, r⟩
    · rw [if_neg (by assumption)] at q; exact ⟨sl', bx', S', β', q, r⟩
  | _ => exact ⟨sl', bx', S', β', q, r⟩

theorem AWp.cond {c : Operand} {x y : Code} {t : Bool} (hc : opnd sl c = .d (.bool t)) (h1 : t = true → AWp P n x Q sl bx) (h2 : t = false → AWp P n y Q sl bx) : AWp P n (.cond c x y) Q sl bx := by
  intro C S w β a hs
  have hv := hs.opnd c
  rw [hc] at hv
  exact wp_cond_split hv.inv_bool (fun h => h1 h C S w β a hs) (fun h => h2 h C S w β a hs)

/-! less is known -/
def vle (x y : SV) : Prop := y = .undef ∨ x = y ∨ (y = .d (.slice []) ∧ (x = .d .nil ∨ x = .d .emp))
def sle (sl : SL) : SL → Prop
  | [] => True
  | (t, y) :: r => vle (sget sl t) y ∧ sle sl r
theorem vle_rep {S : Nat → Prop} {w : World} {β : Names} {x y : SV} {v : Value} (h : vle x y) (hr : RepV S w β x v) : RepV S w β y v := by
  rcases h with rfl | rfl | ⟨rfl, rfl | rfl⟩
  · exact .undef _
  · exact hr
  · exact .d _ _ hr.inv_d.of_nil
  · exact .d _ _ hr.inv_d.of_emp
theorem sle_rep {S : Nat → Prop} {w : World} {β : Names} : ∀ {sl' : SL}, sle sl sl' → ∀ {t : Nat} {v : Value}, RepV S w β (sget sl t) v → RepV S w β (sget sl' t) v
  | [], _, t, v, _ => .undef _
  | (u, y) :: r, h, t, v, hr => by
    simp only [sget]
    split
    · subst_vars; exact vle_rep h.1 hr
    · exact sle_rep h.2 hr
def ble (bx : Boxes) : Boxes → Prop
  | [] => True
  | (k, c) :: r => bget bx k = some c ∧ ble bx r
theorem ble_mem : ∀ {bx' : Boxes}, ble bx bx' → ∀ k c, (k, c) ∈ bx' → (k, c) ∈ bx
  | [], _, k, c, h => by simp at h
  | (j, x) :: r, h, k, c, hm => by
    simp only [List.mem_cons, Prod.mk.injEq] at hm
    rcases hm with ⟨rfl, rfl⟩ | hm
    · exact mem_of_bget h.1
    · exact ble_mem h.2 k c hm

theorem St.weaken {C : Ctx} {S : Nat → Prop} {w : World} {β : Names} {a : Act} {sl' : SL} {bx' : Boxes} (h : St C n S w β a sl bx) (h1 : sle sl sl') (h2 : ble bx bx') : St C n S w β a sl' bx' :=
  ⟨h.inv.sub (ble_mem h2), h.size, h.defers, fun t => sle_rep h1 (h.slot t)⟩

theorem AWp.weaken {c : Code} {sl' : SL} {bx' : Boxes} (h1 : sle sl sl') (h2 : ble bx bx') (h : AWp P n c Q sl' bx') : AWp P n c Q sl bx :=
  fun C S w β a hs => h C S w β a (hs.weaken h1 h2)

/-- a loop, its states given by parameters -/
theorem AWp.loop {X : Type} (mk : X → SL) (mb : X → Boxes) (I : X → Prop) (μ : X → Nat) {c : Code} (x0 : X) (h0 : I x0) (h1 : sle sl (mk x0)) (h2 : ble bx (mb x0))
    (h : ∀ x, I x → AWp P n c (thenA (fun sl' bx' => ∃ x', I x' ∧ μ x' < μ x ∧ sle sl' (mk x') ∧ ble bx' (mb x')) Q) (mk x) (mb x)) : AWp P n (.loop c) Q sl bx := by
  intro C S w β a hs
  refine wp_loop_ghost (fun m a w => ∃ x S β, I x ∧ μ x = m ∧ St C n S w β a (mk x) (mb x)) (μ x0) ⟨x0, S, β, h0, rfl, hs.weaken h1 h2⟩ ?_
  rintro m a w ⟨x, S, β, hx, rfl, hs⟩
  refine wp_mono (h x hx C S w β a hs) ?_
  rintro e a' w' ⟨sl', bx', S', β', q, r⟩
  cases e with
  | normal =>
    obtain ⟨x', h1, h2, h3, h4⟩ := q
    exact ⟨μ x', h2, x', S', β', h1, rfl, r.weaken h3 h4⟩
  | _ => exact ⟨sl', bx', S', β', q, r⟩

/-! facts that every state gives -/
theorem AWp.bd {c : Code} (t : Nat) {d : D} (hd : sget sl t = .d d) (h : d.Bd → AWp P n c Q sl bx) : AWp P n c Q sl bx := by
  intro C S w β a hs
  have hr := hs.slot t
  rw [hd] at hr
  exact h hr.inv_d.bd C S w β a hs
theorem AWp.bdBox {c : Code} (k i : Nat) {cs : List SV} {d : D} (hb : bget bx k = some (.cells cs)) (hd : cs[i]? = some (.d d)) (h : d.Bd → AWp P n c Q sl bx) : AWp P n c Q sl bx := by
  intro C S w β a hs
  obtain ⟨b, ty, vs, h1, h2, h3⟩ := hs.inv.box k _ (mem_of_bget hb)
  obtain ⟨v, hv, hr⟩ := h3.get hd
  exact h hr.inv_d.bd C S w β a hs
theorem AWp.bdRows {c : Code} (k : Nat) {sz : Nat} {rs : List (List D)} (hb : bget bx k = some (.rows sz rs)) (h : rs.length ≤ lim → AWp P n c Q sl bx) : AWp P n c Q sl bx := by
  intro C S w β a hs
  obtain ⟨h1, h2, h3, h4, h5⟩ := hs.inv.box k _ (mem_of_bget hb)
  exact h h4 C S w β a hs

/-! a region, in the order of its text -/
/-- the slot that a guard looks at -/
def gslot (ops : Array Oper) (j : Nat) : Option Nat := (ops[j]?).bind (·.dst)

def guardV (ops : Array Oper) (sl : SL) (o : Oper) : Option Bool :=
  match o.guard with
  | none => some true
  | some (j, want) => match gslot ops j with
    | some t => match sget sl t with
      | .d (.bool b) => some (b == want)
      | .tuple [] => some false
      | _ => none
    | none => none

theorem guard_rep {ops : Array Oper} {o : Oper} {b : Bool} {S : Nat → Prop} {w : World} {β : Names} {a : Act} (hs : ∀ t, (∃ j want, o.guard = some (j, want) ∧ gslot ops j = some t) → RepV S w β (sget sl t) (a.tmps.getD t undef) ∧ t < a.tmps.size)
    (h : guardV ops sl o = some b) : Region.wanted o (yielded ops a.tmps) = b := by
  unfold guardV at h
  unfold Region.wanted
  cases hg : o.guard with
  | none => simp [hg] at h; simp [h]
  | some jw =>
    obtain ⟨j, want⟩ := jw
    simp only [hg] at h ⊢
    cases hj : gslot ops j with
    | none => simp [hj] at h
    | some t =>
      simp only [hj] at h
      obtain ⟨h1, h2⟩ := hs t ⟨j, want, hg, hj⟩
      have hy : yielded ops a.tmps j = match a.tmps.getD t undef with | .bool b => some b | _ => none := by
        unfold yielded
        rw [show (ops[j]?).bind (·.dst) = some t from hj]
        have h2' : t < a.tmps.size := h2
        simp only [Option.bind_some, Array.getElem?_eq_getElem h2', Array.getD_eq_getD_getElem?, Option.getD_some]
        split <;> split <;> simp_all
      rw [hy]
      generalize a.tmps.getD t undef = v at h1
      split at h
      · rename_i x hx
        rw [hx] at h1
        rw [h1.inv_bool]
        simp only [Option.some.injEq] at h
        rw [← h]
        cases x <;> cases want <;> rfl
      · rename_i hx
        rw [hx] at h1
        have : v = .tuple ⟨[]⟩ := by cases h1 with | tuple _ vs hl _ => cases vs with | nil => rfl | cons => simp at hl
        subst this
        simp only [Option.some.injEq] at h
        subst h; rfl
      · simp at h

/-- a region's run on abstract states: each operation by its triple -/
def Run (P : Program) (n : Nat) (ops : Array Oper) : List Oper → SL → Boxes → (SL → Boxes → Prop) → Prop
  | [], sl, bx, K => K sl bx
  | o :: os, sl, bx, K => ∃ g, guardV ops sl o = some g ∧ dstOK n o.dst ∧
      (g = true → ∃ r bx' pg, OpT P o (opnd sl) bx r bx' pg ∧ Run P n ops os (sput (purgeSl pg sl) o.dst r) bx' K) ∧
      (g = false → Run P n ops os (sput sl o.dst (.tuple [])) bx K)

theorem dst_lt_of_gslot {ops : Array Oper} (hd : ∀ o, o ∈ ops.toList → dstOK n o.dst) {j t : Nat} (h : gslot ops j = some t) : t < n := by
  unfold gslot at h
  cases ho : ops[j]? with
  | none => simp [ho] at h
  | some o =>
    simp only [ho, Option.bind_some] at h
    have := hd o (by have := Array.mem_of_getElem? ho; simpa using this)
    rw [h] at this; exact this

theorem Oper.wp_monoQ {o : Oper} {a : Act} {w : World} {K K' : Act → World → Prop} {Q' : Exit → Act → World → Prop} (hh : o.wp P a w K (fun _ _ _ => False)) (h : ∀ a w, K a w → K' a w) : o.wp P a w K' Q' := by
  unfold Oper.wp at *
  generalize (execOp a.eval o).run P w = r at *
  cases r with
  | ok n w' =>
    cases n <;> simp only [Oper.upon] at hh ⊢ <;>
      first
        | exact h _ _ hh
        | exact Calls.mono hh (fun e w'' he => by cases e <;> first | exact h _ _ he | exact he.elim | (obtain ⟨_, _, hf⟩ := he; exact hf.elim))
        | exact Rows.mono hh (fun _ _ he => h _ _ he)
  | halt x w' => cases x <;> simp only [Oper.upon] at hh ⊢

theorem run_ops {C : Ctx} {ops : Array Oper} {QQ : Exit → Act → World → Prop} (hd : ∀ o, o ∈ ops.toList → dstOK n o.dst) {K : SL → Boxes → Prop}
    (hK : ∀ sl bx S w β a, K sl bx → St C n S w β a sl bx → QQ .normal a w) : ∀ (k i : Nat) (sl : SL) (bx : Boxes) (S : Nat → Prop) (w : World) (β : Names) (a : Act), i + k = ops.size → Run P n ops (ops.toList.drop i) sl bx K →
    St C n S w β a sl bx → wpOps P ops QQ (List.range' i k) a w
  | 0, i, sl, bx, S, w, β, a, hik, hr, hs => by
    have : ops.toList.drop i = [] := List.drop_eq_nil_of_le (by simp; omega)
    rw [this] at hr
    exact hK sl bx S w β a hr hs
  | k + 1, i, sl, bx, S, w, β, a, hik, hr, hs => by
    have hi : i < ops.size := by omega
    have hdrop : ops.toList.drop i = ops[i] :: ops.toList.drop (i + 1) := by
      rw [List.drop_eq_getElem_cons (by simpa using hi)]; simp
    rw [hdrop] at hr
    obtain ⟨g, hg, hdo, h1, h2⟩ := hr
    simp only [List.range'_succ, wpOps, Array.getElem?_eq_getElem hi]
    have hw := guard_rep (a := a) (S := S) (w := w) (β := β) (fun t ht => by
      obtain ⟨j, want, _, hj⟩ := ht
      exact ⟨hs.slot t, by rw [hs.size]; exact dst_lt_of_gslot hd hj⟩) hg
    rw [hw]
    cases g with
    | true =>
      simp only [if_true]
      left
      obtain ⟨r, bx', pg, hop, hrun⟩ := h1 rfl
      refine Oper.wp_monoQ (hop C S w β a hs.inv fun x _ => hs.opnd x) ?_
      rintro a' w' ⟨v, S', β', rfl, hi', he, hv, hb⟩
      exact run_ops hd hK k (i + 1) _ bx' S' w' β' _ (by omega) hrun (hs.put hdo hi' he hv hb)
    | false =>
      simp only [Bool.false_eq_true, if_false]
      exact run_ops hd hK k (i + 1) _ bx S w β _ (by omega) (h2 rfl) (hs.put (pg := []) hdo hs.inv (SExt.refl S w) (.tuple [] [] rfl (by simp)) (fun _ _ => rfl))

end Go.Abs
