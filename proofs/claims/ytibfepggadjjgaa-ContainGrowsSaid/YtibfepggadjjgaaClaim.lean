/- What every given statement asks beside the law's own walk -/
import Derived.Test.YtibfepggadjjgaaRows
import Derived.Test.YtibfepggadjjgaaDec
import Derived.ProofKit
import Derived.SizedLaws
import Derived.Carry
import Derived.ChangeOld
import Derived.Below
namespace Go.Proofs.Ytibfepggadjjgaa
open Go.ChangeShapes Go.WideShapes Go.ChangeAt Go.RowKit Go.Abs
set_option linter.unusedVariables false
theorem own : ownKnob Try.prog.godebug = none := by kernel_rfl
theorem laidOut : laidOutB Try.prog = true := by kernel_rfl
theorem weights_two {H : Type} {P : Program} {t0 t1 : TypeId} {ts : List TypeId} {d0 d1 : DataW H} {gs : List (DataW H)} (h : (DataW.weightsEach P ([t0, t1] ++ ts) ([d0, d1] ++ gs)).all (· ≤ reachBytes) = true) :
    (∀ k, k ∈ d0.weights P t0 → k ≤ reachBytes) ∧ ∀ k, k ∈ d1.weights P t1 → k ≤ reachBytes := by
  simp only [List.cons_append, List.nil_append, DataW.weightsEach, List.all_append, Bool.and_eq_true, List.all_eq_true, decide_eq_true_eq] at h
  exact ⟨h.1, h.2.1⟩
theorem weights_one {H : Type} {P : Program} {t0 : TypeId} {ts : List TypeId} {d0 : DataW H} {gs : List (DataW H)} (h : (DataW.weightsEach P ([t0] ++ ts) ([d0] ++ gs)).all (· ≤ reachBytes) = true) :
    ∀ k, k ∈ d0.weights P t0 → k ≤ reachBytes := by
  simp only [List.cons_append, List.nil_append, DataW.weightsEach, List.all_append, Bool.and_eq_true, List.all_eq_true, decide_eq_true_eq] at h
  exact h.1
theorem trod_block {H : Type} {enc : TypeId × Value → H} {P : Program} {W : World} {t : TypeId} {v : Value} {d : DataW H} {ps : List MemPlace} (h : DataW.Trod enc P W 0 (fun _ => true) true t v d ps) : ∀ x ∈ ps, x.block < W.heap.size := by
  obtain ⟨m, hm⟩ := h
  exact DataW.trod_lt m _ _ _ hm
def noNames : Names := fun _ => { base := none }
/-- what a law's walk says, as the row's step wants it -/
theorem law_calls {P : Program} {f : FuncId} {args : List SV} (h : CallOK P f args (boolV true)) {W : World} {vs : List Value} (hv : RepL (Go.Abs.all W) W noNames args vs) :
    Calls P f ⟨vs⟩ W fun e W' => e = .returned (.bool true) ∧ Below W.heap.size W W' := by
  refine (h.calls hv).mono ?_
  rintro e W' ⟨v, S', β', rfl, hr, hb⟩
  rw [hr.inv_bool]
  exact ⟨rfl, hb⟩

end Go.Proofs.Ytibfepggadjjgaa
