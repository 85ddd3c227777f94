/- append as an operation; reslicing; function values; publishing. Own framework, part I. -/
import Derived.Test.YtibfepggadjjgaaAbsH
namespace Go.Abs
open Go

variable {P : Program} {o : Oper} {ρ : Rho} {bx : Boxes}

/-- what is appended -/
inductive IsSrc (bx : Boxes) (sz : Nat) : SV → List (List D) → Prop where
  | nil : IsSrc bx sz (.d .nil) []
  | emp : IsSrc bx sz (.d .emp) []
  | slice (xs : List (List D)) : (∀ row, row ∈ xs → row.length = sz) → IsSrc bx sz (.d (.slice xs)) xs
  | acc (k : Nat) (xs : List (List D)) : (k, BoxC.rows sz xs) ∈ bx → IsSrc bx sz (.acc k) xs

theorem IsSrc.src {C : Ctx} {S : Nat → Prop} {w : World} {β : Names} {sz : Nat} {x : SV} {xs : List (List D)} {v : Value} (h : IsSrc bx sz x xs) (hi : Inv C S w β bx) (hv : RepV S w β x v) : ∃ vs, Src P S w sz xs v vs := by
  cases h with
  | nil => cases hv with | d _ _ h => cases h; exact ⟨[], .nil⟩
  | emp => cases hv with | d _ _ h => cases h; exact ⟨[], .nil⟩
  | slice _ hs => cases hv with | d _ _ h => exact Src.slice h hs
  | acc k _ hk => cases hv with | acc _ => exact Src.acc (hi.box k _ hk)

theorem run_append_op {T U : TypeId} {x y : Operand} (ho : o.op = .call { callee := .builtin .append, args := #[x, y], argTypes := #[T, U] }) {a : Act} {w w' : World} {s v r : Value} (hs : a.eval x = s) (hv : a.eval y = v)
    (h : (Builtin.append_ #[T, U] o.type #[s, v]).run P w = .ok r w') : (execOp a.eval o).run P w = .ok (.value r) w' := by
  simp [execOp, ho, resolve, invoke, builtin, hs, hv, h]

theorem opT_appendAcc {T U e sz bytes k : Nat} {x y : Operand} (hkf : k ≤ 999999) (ho : o.op = .call { callee := .builtin .append, args := #[x, y], argTypes := #[T, U] }) {rs xs : List (List D)} (hE : ElemT P T e sz bytes) (hU : notInt P U = true)
    (hx : ρ x = .acc k) (hb : (k, BoxC.rows sz rs) ∈ bx) (hy : IsSrc bx sz (ρ y) xs) (hroom : (rs.length + xs.length) * bytes ≤ lim) :
    OpT P o ρ bx (.acc k) ((k, .rows sz (rs ++ xs)) :: bpurge k (berase k bx)) [k] := by
  intro C S w β a hi ha
  obtain ⟨vs, hsrc⟩ := hy.src (P := P) hi ((ha y (mo ho (by simp [Op.operands, Call.operands]))))
  have hx1 := (ha x (mo ho (by simp [Op.operands, Call.operands]))); rw [hx] at hx1
  have hv : a.eval x = sval (β k) := by generalize a.eval x = v at hx1; cases hx1; rfl
  obtain ⟨i', w', hrun, q1, q2, q3, q4, q5, q6, q7⟩ := append_core hE hU (hi.box k _ hb) (fun b hb' => ⟨(hi.priv k _ hb b hb').1, (hi.priv k _ hb b hb').2.1⟩) hsrc hroom o.type
  have hpriv : ∀ b, i'.base = some b → ¬ S b ∧ b < w'.heap.size ∧ (w.heap.size ≤ b ∨ ∃ x, (k, x) ∈ bx ∧ (β k).base = some b) := by
    intro b hb'
    rcases q6 b hb' with h | ⟨h1, h2⟩
    · obtain ⟨g1, g2, _⟩ := hi.priv k _ hb b h
      exact ⟨g1, by omega, .inr ⟨_, hb, h⟩⟩
    · exact ⟨fun hs => by have := hi.Slt b hs; omega, h2, .inl h1⟩
  obtain ⟨h1, h2⟩ := hi.setNew (k := k) (c := .rows sz (rs ++ xs)) i' hkf hpriv (fun b' hb' hn => q5 b' hb' (hn _ hb)) q1 q2 q3 q4 (fun e0 => q7 e0 _)
  unfold Oper.wp
  rw [run_append_op ho hv rfl hrun]
  refine ⟨_, S, _, rfl, h1, h2, ?_, fun j hj => upd_ne (by simpa using hj)⟩
  have := RepV.acc (S := S) (w := w') (β := upd β k i') k
  rw [upd_same] at this
  exact this

theorem boxOK_nil {S : Nat → Prop} {w : World} {β : Names} {sz : Nat} : BoxOK S w β { base := none, sz := sz } (.rows sz []) :=
  ⟨rfl, rfl, Nat.le_refl _, by simp [lim], by simp, by simp, rfl⟩

theorem opT_appendNil {T U e sz bytes k : Nat} {x y : Operand} (hkf : k ≤ 999999) (ho : o.op = .call { callee := .builtin .append, args := #[x, y], argTypes := #[T, U] }) {xs : List (List D)} (hE : ElemT P T e sz bytes) (hU : notInt P U = true)
    (hx : ρ x = .d .nil) (hy : IsSrc bx sz (ρ y) xs) (hroom : xs.length * bytes ≤ lim) :
    OpT P o ρ bx (.acc k) ((k, .rows sz xs) :: bpurge k (berase k bx)) [k] := by
  intro C S w β a hi ha
  obtain ⟨vs, hsrc⟩ := hy.src (P := P) hi ((ha y (mo ho (by simp [Op.operands, Call.operands]))))
  have hx1 := (ha x (mo ho (by simp [Op.operands, Call.operands]))); rw [hx] at hx1
  have hv : a.eval x = sval { base := none, sz := sz } := by
    generalize a.eval x = v at hx1
    cases hx1 with | d _ _ h => cases h; rfl
  obtain ⟨i', w', hrun, q1, q2, q3, q4, q5, q6, q7⟩ := append_core (rs := []) hE hU (boxOK_nil (S := S) (w := w) (β := β)) (by simp) hsrc (by simpa using hroom) o.type
  have hpriv : ∀ b, i'.base = some b → ¬ S b ∧ b < w'.heap.size ∧ (w.heap.size ≤ b ∨ ∃ x, (k, x) ∈ bx ∧ (β k).base = some b) := by
    intro b hb'
    rcases q6 b hb' with h | ⟨h1, h2⟩
    · simp at h
    · exact ⟨fun hs => by have := hi.Slt b hs; omega, h2, .inl h1⟩
  obtain ⟨h1, h2⟩ := hi.setNew (k := k) (c := .rows sz xs) i' hkf hpriv (fun b' hb' _ => q5 b' hb' (by simp)) q1 q2 q3 q4 (fun e0 => by simpa using q7 e0 _)
  unfold Oper.wp
  rw [run_append_op ho hv rfl hrun]
  refine ⟨_, S, _, rfl, h1, h2, ?_, fun j hj => upd_ne (by simpa using hj)⟩
  have := RepV.acc (S := S) (w := w') (β := upd β k i') k
  rw [upd_same] at this
  exact this

/-! publishing a box of rows -/
theorem BoxOK.rows_slice {S : Nat → Prop} {w : World} {β : Names} {i : BI} {sz : Nat} {rs : List (List D)} (h : BoxOK S w β i (.rows sz rs)) (hS : ∀ b, i.base = some b → S b) : RepC S w (.slice rs) (sval i) := by
  obtain ⟨vs, hs⟩ := Src.acc (P := default) h
  obtain ⟨g1, g2, g3, g4, g5, g6, g7⟩ := h
  subst g1
  unfold sval
  rw [← g2] at g3 ⊢
  cases hb : i.base with
  | none =>
    rw [hb] at g7
    simp only at g7
    have : rs = [] := by cases rs with
      | nil => rfl
      | cons r xs => simp at g3; omega
    subst this
    rw [g7]
    exact .slice0 none 0 (fun _ => rfl)
  | some b =>
    rw [hb] at g7
    obtain ⟨ty, us, hh, hfit, hrep⟩ := g7
    simp only [Option.map_some]
    refine .slice rs b _ _ i.sz (hS b hb) g4 g3 g5 g6 ?_ ?_
    · intro r j hr hj
      have h1 : (i.off + r + 1) * i.sz ≤ (i.off + i.cap) * i.sz := Nat.mul_le_mul_right _ (by omega)
      have h2 : (i.off + r + 1) * i.sz = i.off * i.sz + (r * i.sz + i.sz) := by rw [Nat.add_mul, Nat.add_mul, Nat.one_mul, Nat.add_assoc]
      have hlt : i.off * i.sz + (r * i.sz + j) < us.length := by omega
      exact ⟨us[i.off * i.sz + (r * i.sz + j)], by rw [cells_of_row hh]; exact List.getElem?_eq_getElem hlt⟩
    · intro r j row d v hr hd hv
      rw [cells_of_row hh] at hv
      exact hrep r j row d v hr hd (by rw [Nat.add_mul, Nat.add_assoc]; exact hv)

/-- a box of rows becomes data that stays -/
theorem Inv.publish {C : Ctx} {S : Nat → Prop} {w : World} {β : Names} {k sz : Nat} {rs : List (List D)} (h : Inv C S w β bx) (hk : (k, BoxC.rows sz rs) ∈ bx) :
    Inv C (fun b => S b ∨ (β k).base = some b) w β (berase k bx) ∧ SExt S w (fun b => S b ∨ (β k).base = some b) w ∧ RepC (fun b => S b ∨ (β k).base = some b) w (.slice rs) (sval (β k)) := by
  have e : SExt S w (fun b => S b ∨ (β k).base = some b) w := ⟨fun _ h => .inl h, fun _ _ => rfl⟩
  refine ⟨?_, e, (BoxOK.ext (h.box k _ hk) e (fun _ _ => rfl) (fun _ _ => rfl)).rows_slice fun b hb => .inr hb⟩
  exact {
    S0sub := fun b hb => .inl (h.S0sub b hb)
    Snew := fun b hb => by
      rcases hb with hb | hb
      · exact h.Snew b hb
      · exact .inr (h.priv k _ hk b hb).2.2
    Slt := fun b hb => by
      rcases hb with hb | hb
      · exact h.Slt b hb
      · exact (h.priv k _ hk b hb).2.1
    kept := h.kept
    os := h.os
    tape := h.tape
    output := h.output
    size := h.size
    box := fun j c hj => by
      obtain ⟨hne, hj⟩ := mem_berase.1 hj
      exact (h.box j c hj).ext e (fun _ _ => rfl) (fun _ _ => rfl)
    priv := fun j c hj b hb => by
      obtain ⟨hne, hj⟩ := mem_berase.1 hj
      obtain ⟨h1, h2, h3⟩ := h.priv j c hj b hb
      refine ⟨fun hs => ?_, h2, h3⟩
      rcases hs with hs | hs
      · exact h1 hs
      · exact hne (h.inj j c k _ hj hk b hb hs).1
    inj := fun j c j' c' hj hj' b hb hb' => h.inj j c j' c' (mem_berase.1 hj).2 (mem_berase.1 hj').2 b hb hb'
    fix := h.fix }

end Go.Abs
