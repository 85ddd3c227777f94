/- What each statement of layer 13 asks beside the law's own walk -/
import Derived.Test.YtenheogknlmohaaGreatDoorZL13
import Derived.Test.YtenheogknlmohaaGreatDoorZDec
import Derived.ProofKit
import Derived.SizedLaws
import Derived.Carry
import Derived.ChangeOld
import Derived.ChangeSame
import Derived.ChangeVars
import Derived.Stop.Joined
import Derived.JoinedOf
import Derived.RowKitTokens
import Derived.Below
import Derived.SevenTiedAt
import Derived.Test.YtenheogknlmohaaGreatDoorTie
import Derived.Test.YtenheogknlmohaaGreatDoorCards
namespace Go.Proofs.YtenheogknlmohaaGreatDoor
open Go Go.ChangeShapes Go.WideShapes Go.ChangeAt Go.RowKit Go.Abs
set_option linter.unusedVariables false
set_option maxRecDepth 100000
theorem own : ownKnob Tryz.prog.godebug = none := by kernel_rfl
theorem laidOut : laidOutB Tryz.prog = true := by kernel_rfl
theorem arg_fos {H : Type} {enc : TypeId × Value → H} {W : World} {base : Nat} {v : Value} {d : DataW H} {ps : List MemPlace} (hok : Value.okWide Tryz.prog W .any base 46 v)
    (h : DataW.Trod enc Tryz.prog W 0 (fun _ => true) true 46 v d ps) (hw : ∀ k, k ∈ d.weights Tryz.prog 46 → k ≤ reachBytes) (β : Names) : ∃ l : List Formal, RepV (Go.Abs.all W) W β (.d (.slice (foR l))) v := by
  obtain ⟨n, rows, h1, h2⟩ := arg_slice dataTs_ok (by simp [dataTs]) Tryz.underlying46 hok h hw β
  obtain ⟨l, hl⟩ := conf_fos h1
  simp only [List.cons.injEq, D.slice.injEq, and_true] at hl
  subst hl
  exact ⟨l, h2⟩
theorem trod_block {H : Type} {enc : TypeId × Value → H} {P : Program} {W : World} {t : TypeId} {v : Value} {d : DataW H} {ps : List MemPlace} (h : DataW.Trod enc P W 0 (fun _ => true) true t v d ps) : ∀ x ∈ ps, x.block < W.heap.size := by
  obtain ⟨m, hm⟩ := h
  exact DataW.trod_lt m _ _ _ hm
def noNames : Names := fun _ => { base := none }
theorem law_calls {P : Program} {f : FuncId} {args : List SV} (h : CallOK P f args (boolV true)) {W : World} {vs : List Value} (hv : RepL (Go.Abs.all W) W noNames args vs) (ht : ∀ b cs, fixedRow b cs → ∃ ty fr, W.heap[b]? = some (.cells cs ty fr)) :
    Calls P f ⟨vs⟩ W fun e W' => e = .returned (.bool true) ∧ Below W.heap.size W W' := by
  refine (h.calls hv ht).mono ?_
  rintro e W' ⟨v, S', β', rfl, hr, hb⟩
  rw [hr.inv_bool]
  exact ⟨rfl, hb⟩
theorem weights_four {H : Type} {P : Program} {t0 t1 t2 t3 : TypeId} {ts : List TypeId} {d0 d1 d2 d3 : DataW H} {gs : List (DataW H)} (h : (DataW.weightsEach P ([t0, t1, t2, t3] ++ ts) ([d0, d1, d2, d3] ++ gs)).all (· ≤ reachBytes) = true) :
    (∀ k, k ∈ d0.weights P t0 → k ≤ reachBytes) ∧ (∀ k, k ∈ d1.weights P t1 → k ≤ reachBytes) ∧ (∀ k, k ∈ d2.weights P t2 → k ≤ reachBytes) ∧ ∀ k, k ∈ d3.weights P t3 → k ≤ reachBytes := by
  simp only [List.cons_append, List.nil_append, DataW.weightsEach, List.all_append, Bool.and_eq_true, List.all_eq_true, decide_eq_true_eq] at h
  exact ⟨h.1, h.2.1, h.2.2.1, h.2.2.2.1⟩
theorem weights_two {H : Type} {P : Program} {t0 t1 : TypeId} {ts : List TypeId} {d0 d1 : DataW H} {gs : List (DataW H)} (h : (DataW.weightsEach P ([t0, t1] ++ ts) ([d0, d1] ++ gs)).all (· ≤ reachBytes) = true) :
    (∀ k, k ∈ d0.weights P t0 → k ≤ reachBytes) ∧ ∀ k, k ∈ d1.weights P t1 → k ≤ reachBytes := by
  simp only [List.cons_append, List.nil_append, DataW.weightsEach, List.all_append, Bool.and_eq_true, List.all_eq_true, decide_eq_true_eq] at h
  exact ⟨h.1, h.2.1⟩
theorem weights_five {H : Type} {P : Program} {t0 t1 t2 t3 t4 : TypeId} {ts : List TypeId} {d0 d1 d2 d3 d4 : DataW H} {gs : List (DataW H)} (h : (DataW.weightsEach P ([t0, t1, t2, t3, t4] ++ ts) ([d0, d1, d2, d3, d4] ++ gs)).all (· ≤ reachBytes) = true) :
    (∀ k, k ∈ d0.weights P t0 → k ≤ reachBytes) ∧ (∀ k, k ∈ d1.weights P t1 → k ≤ reachBytes) ∧ (∀ k, k ∈ d2.weights P t2 → k ≤ reachBytes) ∧ (∀ k, k ∈ d3.weights P t3 → k ≤ reachBytes) ∧ ∀ k, k ∈ d4.weights P t4 → k ≤ reachBytes := by
  simp only [List.cons_append, List.nil_append, DataW.weightsEach, List.all_append, Bool.and_eq_true, List.all_eq_true, decide_eq_true_eq] at h
  exact ⟨h.1, h.2.1, h.2.2.1, h.2.2.2.1, h.2.2.2.2.1⟩
section
variable {H : Type} {enc : TypeId × Value → H} {P : Program} {w : World} {base : Nat} {spare : Nat → Bool} {held : Bool}
theorem trodAll_five {a b c d e : TypeId} {args : Array Value} {ds : List (DataW H)} {ps : List MemPlace} (h : DataW.TrodAll enc P w base spare held [a, b, c, d, e] args.toList ds ps) :
    ∃ v0 v1 v2 v3 v4 d0 d1 d2 d3 d4 p0 p1 p2 p3 p4, args = #[v0, v1, v2, v3, v4] ∧ ds = [d0, d1, d2, d3, d4] ∧ ps = p0 ++ p1 ++ p2 ++ p3 ++ p4 ∧ DataW.Trod enc P w base spare held a v0 d0 p0 ∧ DataW.Trod enc P w base spare held b v1 d1 p1 ∧ DataW.Trod enc P w base spare held c v2 d2 p2 ∧ DataW.Trod enc P w base spare held d v3 d3 p3 ∧ DataW.Trod enc P w base spare held e v4 d4 p4 := by
  obtain ⟨v0, w0, d0, e0, p0, q0, hargs, rfl, rfl, h0, r0⟩ := trodAll_cons h
  obtain ⟨v1, w1, d1, e1, p1, q1, rfl, rfl, rfl, h1, r1⟩ := trodAll_cons r0
  obtain ⟨v2, w2, d2, e2, p2, q2, rfl, rfl, rfl, h2, r2⟩ := trodAll_cons r1
  obtain ⟨v3, w3, d3, e3, p3, q3, rfl, rfl, rfl, h3, r3⟩ := trodAll_cons r2
  obtain ⟨v4, w4, d4, e4, p4, q4, rfl, rfl, rfl, h4, r4⟩ := trodAll_cons r3
  obtain ⟨rfl, rfl, rfl⟩ := trodAll_nil r4
  exact ⟨v0, v1, v2, v3, v4, d0, d1, d2, d3, d4, p0, p1, p2, p3, p4, by cases args; simp_all, rfl, by simp, h0, h1, h2, h3, h4⟩
theorem trodAll_mk5 {a b c d e : TypeId} {v0 v1 v2 v3 v4 : Value} {d0 d1 d2 d3 d4 : DataW H} {p0 p1 p2 p3 p4 : List MemPlace} (h0 : DataW.Trod enc P w base spare held a v0 d0 p0) (h1 : DataW.Trod enc P w base spare held b v1 d1 p1)
    (h2 : DataW.Trod enc P w base spare held c v2 d2 p2) (h3 : DataW.Trod enc P w base spare held d v3 d3 p3) (h4 : DataW.Trod enc P w base spare held e v4 d4 p4) : DataW.TrodAll enc P w base spare held [a, b, c, d, e] [v0, v1, v2, v3, v4] [d0, d1, d2, d3, d4] (p0 ++ (p1 ++ (p2 ++ (p3 ++ p4)))) := ⟨p0, _, h0, trodAll_mk4 h1 h2 h3 h4, rfl⟩
end
theorem arg_tys {H : Type} {enc : TypeId × Value → H} {W : World} {base : Nat} {v : Value} {d : DataW H} {ps : List MemPlace} (hok : Value.okWide Tryz.prog W .any base 23 v)
    (h : DataW.Trod enc Tryz.prog W 0 (fun _ => true) true 23 v d ps) (hw : ∀ k, k ∈ d.weights Tryz.prog 23 → k ≤ reachBytes) (β : Names) : ∃ l : List Ty, RepV (Go.Abs.all W) W β (tysV l) v := by
  obtain ⟨n, rows, h1, h2⟩ := arg_slice dataTs_ok (by simp [dataTs]) Tryz.underlying23 hok h hw β
  obtain ⟨l, hl⟩ := conf_tys h1
  simp only [List.cons.injEq, D.slice.injEq, and_true] at hl
  subst hl
  exact ⟨l, h2⟩
def cellsOfD : DataW Unit → Array Value
  | .agg ds => (ds.map fun | .lit l => l.value | _ => undef).toArray
  | _ => #[]
/-- a world that meets the condition -/
noncomputable def laidWorld (os : Os) : World :=
  let w0 := World.holding Tryz.prog os ⟨#[], #[], []⟩
  (((w0.setRow 0 errTy).setRow 1 pow10).setRow 2 (cellsOfD Rows.laid_math_bits_deBruijn32tab)).setRow 3 (cellsOfD Rows.laid_math_bits_deBruijn64tab)
theorem laidWorld_met (os : Os) (args : Array Value) : laidMetH Tryz.prog Rows.implMatchesReferenceRow.laid ((laidWorld os).forCall (fun _ _ => 0) ⟨#[], args, []⟩).memory :=
  laidMetH_of_parts (laidMet_of_run' 8 (by kernel_rfl) (by kernel_rfl)) (by kernel_rfl)
end Go.Proofs.YtenheogknlmohaaGreatDoor
