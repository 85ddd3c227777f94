/- Few programs are small -/
import Derived.Test.YtibfepggadjjgaaF10
namespace Go.Abs
set_option linter.unusedSimpArgs false
set_option linter.unusedVariables false
open Go Go.Proofs

mutual
theorem Ty.count_ge : ∀ (t : Ty) (k : Int), k + 1 ≤ t.count k
  | .mk n a _, k => by
    simp only [Ty.count]
    have := Ty.countL_ge a (k + 1 + ((n.length / 50 : Nat) : Int))
    omega
theorem Ty.countL_ge : ∀ (l : List Ty) (k : Int), k ≤ Ty.countL l k
  | [], k => by simp [Ty.countL]
  | t :: ts, k => by
    simp only [Ty.countL]
    split
    · have h1 := Ty.count_ge t k
      have h2 := Ty.countL_ge ts (t.count k)
      omega
    · omega
end
mutual
theorem Ty.count_sm : ∀ (t : Ty) (k : Int), 0 ≤ k → t.count k ≤ 2000 → t.Sm
  | .mk n a p, k, h0, h => by
    simp only [Ty.count] at h
    have h1 := Ty.countL_ge a (k + 1 + ((n.length / 50 : Nat) : Int))
    have h2 := Ty.countL_sm a (k + 1 + ((n.length / 50 : Nat) : Int)) (by omega) h
    exact .mk n a p (by unfold sm; omega) (by unfold sm; omega) h2.2
theorem Ty.countL_sm : ∀ (l : List Ty) (k : Int), 0 ≤ k → Ty.countL l k ≤ 2000 → (k + l.length ≤ 2000 ∧ ∀ t, t ∈ l → t.Sm)
  | [], k, h0, h => by simp [Ty.countL] at h ⊢; omega
  | t :: ts, k, h0, h => by
    simp only [Ty.countL] at h
    split at h
    · have h1 := Ty.count_ge t k
      have h2 := Ty.countL_sm ts (t.count k) (by omega) h
      have h3 := Ty.count_sm t k h0 (by have := Ty.countL_ge ts (t.count k); omega)
      refine ⟨by simp only [List.length_cons]; omega, ?_⟩
      intro u hu
      simp only [List.mem_cons] at hu
      rcases hu with rfl | hu
      · exact h3
      · exact h2.2 u hu
    · omega
end
mutual
theorem Ex.count_ge : ∀ (t : Ex) (k : Int), k + 1 ≤ t.count k
  | .mk _ n t a ks _, k => by
    simp only [Ex.count]
    have h1 := Ty.count_ge t (k + ((n.length / 50 : Nat) : Int))
    have h2 := Ty.countL_ge a (t.count (k + ((n.length / 50 : Nat) : Int)))
    have h3 := Ex.countL_ge ks (Ty.countL a (t.count (k + ((n.length / 50 : Nat) : Int))))
    omega
theorem Ex.countL_ge : ∀ (l : List Ex) (k : Int), k ≤ Ex.countL l k
  | [], k => by simp [Ex.countL]
  | t :: ts, k => by
    simp only [Ex.countL]
    split
    · have h1 := Ex.count_ge t k
      have h2 := Ex.countL_ge ts (t.count k)
      omega
    · omega
end
mutual
theorem Ex.count_sm : ∀ (t : Ex) (k : Int), 0 ≤ k → t.count k ≤ 2000 → t.Sm
  | .mk kd n t a ks p, k, h0, h => by
    simp only [Ex.count] at h
    have h1 := Ty.count_ge t (k + ((n.length / 50 : Nat) : Int))
    have h2 := Ty.countL_ge a (t.count (k + ((n.length / 50 : Nat) : Int)))
    have h3 := Ex.countL_ge ks (Ty.countL a (t.count (k + ((n.length / 50 : Nat) : Int))))
    have g1 := Ty.count_sm t (k + ((n.length / 50 : Nat) : Int)) (by omega) (by omega)
    have g2 := Ty.countL_sm a (t.count (k + ((n.length / 50 : Nat) : Int))) (by omega) (by omega)
    have g3 := Ex.countL_sm ks (Ty.countL a (t.count (k + ((n.length / 50 : Nat) : Int)))) (by omega) h
    exact .mk kd n t a ks p (by unfold sm; omega) g1 (by unfold sm; omega) g2.2 (by unfold sm; omega) g3.2
theorem Ex.countL_sm : ∀ (l : List Ex) (k : Int), 0 ≤ k → Ex.countL l k ≤ 2000 → (k + l.length ≤ 2000 ∧ ∀ t, t ∈ l → t.Sm)
  | [], k, h0, h => by simp [Ex.countL] at h ⊢; omega
  | t :: ts, k, h0, h => by
    simp only [Ex.countL] at h
    split at h
    · have h1 := Ex.count_ge t k
      have h2 := Ex.countL_sm ts (t.count k) (by omega) h
      have h3 := Ex.count_sm t k h0 (by have := Ex.countL_ge ts (t.count k); omega)
      refine ⟨by simp only [List.length_cons]; omega, ?_⟩
      intro u hu
      simp only [List.mem_cons] at hu
      rcases hu with rfl | hu
      · exact h3
      · exact h2.2 u hu
    · omega
end
abbrev LSm {α : Type} (F : List α → Int → Int) (Sm : α → Prop) : Prop := ∀ (l : List α) (k : Int), (k ≤ F l k) ∧ (0 ≤ k → F l k ≤ 2000 → k + l.length ≤ 2000 ∧ ∀ t, t ∈ l → Sm t)
/-- the same for the lists whose rows count by `g` -/
theorem list_sm {α : Type} (F : List α → Int → Int) (g : α → Int → Int) (Sm : α → Prop) (h0 : ∀ k, F [] k = k) (h1 : ∀ x xs k, F (x :: xs) k = if k ≤ 2000 then F xs (g x k) else k)
    (hge : ∀ x k, k + 1 ≤ g x k) (hsm : ∀ x k, 0 ≤ k → g x k ≤ 2000 → Sm x) : ∀ (l : List α) (k : Int), (k ≤ F l k) ∧ (0 ≤ k → F l k ≤ 2000 → k + l.length ≤ 2000 ∧ ∀ t, t ∈ l → Sm t)
  | [], k => by rw [h0]; exact ⟨Int.le_refl _, fun h0 h => ⟨by simp; omega, by simp⟩⟩
  | t :: ts, k => by
    rw [h1]
    obtain ⟨i1, i2⟩ := list_sm F g Sm h0 h1 hge hsm ts (g t k)
    have h2 := hge t k
    split
    · refine ⟨by omega, fun hk h => ?_⟩
      obtain ⟨j1, j2⟩ := i2 (by omega) h
      have h3 := hsm t k hk (by omega)
      refine ⟨by simp only [List.length_cons]; omega, ?_⟩
      intro u hu
      simp only [List.mem_cons] at hu
      rcases hu with rfl | hu
      · exact h3
      · exact j2 u hu
    · exact ⟨Int.le_refl _, fun _ h => by omega⟩
theorem fo_sm : LSm foCount Formal.Sm := list_sm foCount (fun f n => f.bound.count (n + 1 + ((f.name.length / 50 : Nat) : Int))) Formal.Sm (fun _ => rfl) (fun _ _ _ => rfl)
  (fun x k => by have := Ty.count_ge x.bound (k + 1 + ((x.name.length / 50 : Nat) : Int)); omega)
  (fun x k h0 h => by
    have := Ty.count_ge x.bound (k + 1 + ((x.name.length / 50 : Nat) : Int))
    exact ⟨by unfold sm; omega, Ty.count_sm _ _ (by omega) h⟩)
theorem pa_sm : LSm paCount Param.Sm := list_sm paCount (fun f n => f.type.count (n + 1 + ((f.name.length / 50 : Nat) : Int))) Param.Sm (fun _ => rfl) (fun _ _ _ => rfl)
  (fun x k => by have := Ty.count_ge x.type (k + 1 + ((x.name.length / 50 : Nat) : Int)); omega)
  (fun x k h0 h => by
    have := Ty.count_ge x.type (k + 1 + ((x.name.length / 50 : Nat) : Int))
    exact ⟨by unfold sm; omega, Ty.count_sm _ _ (by omega) h⟩)
theorem va_sm : LSm vaCount (fun v => v.length ≤ sm) := list_sm vaCount (fun v n => n + 1 + ((v.length / 50 : Nat) : Int)) (fun v => v.length ≤ sm) (fun _ => rfl) (fun _ _ _ => rfl) (fun x k => by omega) (fun x k h0 h => by unfold sm; omega)
theorem Sig.count_sm (s : Sig) (n : Int) : n + 1 ≤ s.count n ∧ (0 ≤ n → s.count n ≤ 2000 → s.Sm) := by
  unfold Sig.count
  obtain ⟨a1, a2⟩ := fo_sm s.formals (n + ((s.name.length / 50 : Nat) : Int))
  obtain ⟨b1, b2⟩ := pa_sm s.params (foCount s.formals (n + ((s.name.length / 50 : Nat) : Int)))
  have c1 := Ty.count_ge s.result (paCount s.params (foCount s.formals (n + ((s.name.length / 50 : Nat) : Int))))
  refine ⟨by omega, fun h0 h => ?_⟩
  obtain ⟨a3, a4⟩ := a2 (by omega) (by omega)
  obtain ⟨b3, b4⟩ := b2 (by omega) (by omega)
  exact ⟨by unfold sm; omega, ⟨by unfold sm; omega, a4⟩, ⟨by unfold sm; omega, b4⟩, Ty.count_sm _ _ (by omega) h⟩
theorem si_sm : LSm siCount Sig.Sm := list_sm siCount Sig.count Sig.Sm (fun _ => rfl) (fun _ _ _ => rfl) (fun x k => (Sig.count_sm x k).1) (fun x k => (Sig.count_sm x k).2)
theorem Decl.count_sm (d : Decl) (n : Int) : n + 1 ≤ d.count n ∧ (0 ≤ n → d.count n ≤ 2000 → d.Sm) := by
  unfold Decl.count
  generalize hm : n + 1 + ((d.name.length / 50 : Nat) : Int) + ((d.recv.length / 50 : Nat) : Int) = m
  obtain ⟨a1, a2⟩ := fo_sm d.formals m
  obtain ⟨b1, b2⟩ := pa_sm d.fields (foCount d.formals m)
  obtain ⟨c1, c2⟩ := si_sm d.sigs (paCount d.fields (foCount d.formals m))
  obtain ⟨e1, e2⟩ := va_sm d.vars (siCount d.sigs (paCount d.fields (foCount d.formals m)))
  generalize hz : vaCount d.vars (siCount d.sigs (paCount d.fields (foCount d.formals m))) = z at *
  unfold Decl.count2
  obtain ⟨f1, f2⟩ := Sig.count_sm d.sig z
  have g1 := Ex.count_ge d.body (d.sig.count z)
  refine ⟨by split <;> omega, fun h0 h => ?_⟩
  split at h
  · obtain ⟨a3, a4⟩ := a2 (by omega) (by omega)
    obtain ⟨b3, b4⟩ := b2 (by omega) (by omega)
    obtain ⟨c3, c4⟩ := c2 (by omega) (by omega)
    obtain ⟨e3, e4⟩ := e2 (by omega) (by omega)
    exact ⟨by unfold sm; omega, ⟨by unfold sm; omega, a4⟩, ⟨by unfold sm; omega, b4⟩, ⟨by unfold sm; omega, c4⟩, by unfold sm; omega, ⟨by unfold sm; omega, e4⟩, f2 (by omega) (by omega), Ex.count_sm _ _ (by omega) h⟩
  · omega
theorem de_sm : LSm deCount Decl.Sm := list_sm deCount Decl.count Decl.Sm (fun _ => rfl) (fun _ _ _ => rfl) (fun x k => (Decl.count_sm x k).1) (fun x k => (Decl.count_sm x k).2)
theorem Prog.count_sm (p : Prog) (h : p.count ≤ 600) : p.Sm ∧ p.decls.length ≤ 2000 := by
  unfold Prog.count at h
  have h1 := Ex.count_ge p.main 0
  obtain ⟨a1, a2⟩ := de_sm p.decls (p.main.count 0)
  obtain ⟨a3, a4⟩ := a2 (by omega) (by omega)
  exact ⟨⟨⟨by unfold sm; omega, a4⟩, Ex.count_sm p.main 0 (by omega) (by omega)⟩, by omega⟩
end Go.Abs
