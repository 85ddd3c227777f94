/- Shapes of code that come again and again. Own framework, part S. -/
import Derived.Test.YtibfepggadjjgaaAbsP
namespace Go.Abs
set_option linter.unusedSimpArgs false
set_option linter.unusedVariables false
open Go
variable {P : Program} {n : Nat} {Q : Exit → SL → Boxes → Prop} {sl : SL} {bx : Boxes}

/-- a slice of its own that is handed back, as data -/
theorem CallB.pub {f : FuncId} {args : List SV} {q sz : Nat} {rs : List (List D)} (h : CallB P f args [] (.acc q) [(q, .rows sz rs)]) : CallOK P f args (.d (.slice rs)) := by
  refine ⟨h.1, fun C β vs hi hv => (h.2 C β vs hi hv).mono ?_⟩
  rintro e w' ⟨v, S', β', rfl, hk, hv⟩
  obtain ⟨h1, _, h3⟩ := hk.publish (k := q) (sz := sz) (rs := rs) (by simp)
  cases hv
  exact ⟨_, _, β', rfl, h1.sub (by simp), .d _ _ h3⟩
theorem AWp.goOn {c : Operand} {y z : Code} (hc : opnd sl c = .d (.bool true)) (h : AWp P n z Q sl bx) : AWp P n (.seq (.cond c .skip y) z) Q sl bx :=
  AWp.seq (AWp.condT hc (AWp.skip h))
theorem AWp.stop {c : Operand} {x z : Code} {id : Nat} (hc : opnd sl c = .d (.bool false)) (h : Q (.exit id) sl bx) : AWp P n (.seq (.cond c x (.exit id)) z) Q sl bx :=
  AWp.seq (AWp.condF hc (AWp.exit h))
/-- a branch that leaves -/
theorem AWp.ifRet {c : Operand} {x z : Code} {b : Bool} (hc : opnd sl c = .d (.bool b)) (h1 : b = true → AWp P n x (thenA (fun _ _ => False) Q) sl bx) (h2 : b = false → AWp P n z Q sl bx) :
    AWp P n (.seq (.cond c x .skip) z) Q sl bx :=
  AWp.seq (AWp.cond hc (fun hb => (h1 hb).mono fun e _ _ hq => by cases e <;> first | exact hq.elim | exact hq) (fun hb => AWp.skip (h2 hb)))
theorem AWp.skipIf {c : Operand} {x z : Code} (hc : opnd sl c = .d (.bool false)) (h : AWp P n z Q sl bx) : AWp P n (.seq (.cond c x .skip) z) Q sl bx :=
  AWp.seq (AWp.condF hc (AWp.skip h))
theorem AWp.takeIf {c : Operand} {x y z : Code} (hc : opnd sl c = .d (.bool true)) (h : AWp P n x (thenA (fun _ _ => False) Q) sl bx) : AWp P n (.seq (.cond c x y) z) Q sl bx :=
  AWp.seq (AWp.condT hc (h.mono fun e _ _ hq => by cases e <;> first | exact hq.elim | exact hq))

theorem AWp.ifRetK {c : Operand} {x z : Code} {b : Bool} {K : SL → Boxes → Prop} (hc : opnd sl c = .d (.bool b)) (hK : ∀ sl' bx', AWp P n z Q sl' bx' → K sl' bx')
    (h1 : b = true → AWp P n x (thenA (fun _ _ => False) Q) sl bx) (h2 : b = false → AWp P n z Q sl bx) : AWp P n (.cond c x .skip) (thenA K Q) sl bx :=
  AWp.cond hc (fun hb => (h1 hb).mono fun e _ _ hq => by cases e <;> first | exact hq.elim | exact hq) (fun hb => AWp.skip (hK _ _ (h2 hb)))
theorem AWp.takeIfK {c : Operand} {x y : Code} {K : SL → Boxes → Prop} (hc : opnd sl c = .d (.bool true)) (h1 : AWp P n x (thenA (fun _ _ => False) Q) sl bx) : AWp P n (.cond c x y) (thenA K Q) sl bx :=
  AWp.condT hc (h1.mono fun e _ _ hq => by cases e <;> first | exact hq.elim | exact hq)
theorem AWp.skipIfK {c : Operand} {x z : Code} {K : SL → Boxes → Prop} (hc : opnd sl c = .d (.bool false)) (hK : ∀ sl' bx', AWp P n z Q sl' bx' → K sl' bx') (h2 : AWp P n z Q sl bx) : AWp P n (.cond c x .skip) (thenA K Q) sl bx :=
  AWp.condF hc (AWp.skip (hK _ _ h2))

theorem AWp.goOnK {c : Operand} {y z : Code} {K : SL → Boxes → Prop} (hc : opnd sl c = .d (.bool true)) (hK : ∀ sl' bx', AWp P n z Q sl' bx' → K sl' bx') (h2 : AWp P n z Q sl bx) : AWp P n (.cond c .skip y) (thenA K Q) sl bx :=
  AWp.condT hc (AWp.skip (hK _ _ h2))
theorem AWp.stopK {c : Operand} {x : Code} {id : Nat} {K : SL → Boxes → Prop} (hc : opnd sl c = .d (.bool false)) (h : Q (.exit id) sl bx) : AWp P n (.cond c x (.exit id)) (thenA K Q) sl bx :=
  AWp.condF hc (AWp.exit h)

/-- a loop over the places of a list -/
theorem AWp.forIdx {α X : Type} (L : List α) (mk : Nat → X → SL) (mb : Nat → X → Boxes) (I : Nat → X → Prop) {c : Code} (x0 : X) (h0 : I 0 x0) (h1 : sle sl (mk 0 x0)) (h2 : ble bx (mb 0 x0))
    (last : ∀ x, I L.length x → AWp P n c (thenA (fun _ _ => False) Q) (mk L.length x) (mb L.length x))
    (step : ∀ j x a, L[j]? = some a → a ∈ L → L.drop j = a :: L.drop (j + 1) → L.take (j + 1) = L.take j ++ [a] → (j : Int) < (L.length : Int) → I j x →
      AWp P n c (thenA (fun sl' bx' => ∃ x', I (j + 1) x' ∧ sle sl' (mk (j + 1) x') ∧ ble bx' (mb (j + 1) x')) Q) (mk j x) (mb j x)) : AWp P n (.loop c) Q sl bx := by
  refine AWp.loop (X := Nat × X) (fun x => mk x.1 x.2) (fun x => mb x.1 x.2) (fun x => x.1 ≤ L.length ∧ I x.1 x.2) (fun x => L.length - x.1) (0, x0) ⟨by simp, h0⟩ h1 h2 ?_
  rintro ⟨j, x⟩ ⟨hj, hI⟩
  simp only at hj hI
  by_cases hlt : j < L.length
  · refine (step j x L[j] (List.getElem?_eq_getElem hlt) (List.getElem_mem hlt) (List.drop_eq_getElem_cons hlt) (List.take_succ_eq_append_getElem hlt) (by omega) hI).mono ?_
    intro e sl' bx' hq
    cases e with
    | normal => obtain ⟨x', g1, g2, g3⟩ := hq; exact ⟨(j + 1, x'), ⟨by simp only; omega, g1⟩, by simp only; omega, g2, g3⟩
    | _ => exact hq
  · have : j = L.length := by omega
    subst this
    refine (last x hI).mono ?_
    intro e sl' bx' hq
    cases e with
    | normal => exact hq.elim
    | _ => exact hq

theorem bsize (l : List UInt8) : (ByteArray.mk ⟨l⟩).size = l.length := rfl
theorem leLim {n : Nat} (h : n ≤ 1000) : (n ≤ lim) = True := by simp only [eq_iff_iff, iff_true]; unfold lim; omega
end Go.Abs
