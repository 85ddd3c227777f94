/- Bounds answers as in the reference, for every program of few parts, environment, formals and types -/
import Derived.Test.YtenheogknlmohaaGreatDoorZC13
import Derived.Test.YtenheogknlmohaaGreatDoorZS31
import Derived.Test.YtenheogknlmohaaGreatDoorZS30
namespace Go.Proofs.YtenheogknlmohaaGreatDoor
open Go Go.ChangeShapes Go.WideShapes Go.ChangeAt Go.RowKit Go.Abs
set_option linter.unusedVariables false
set_option maxRecDepth 100000 in
theorem lifted_implBounds (os : Os) (started : os.Started) (H : Type) (enc : TypeId × Value → H) :
    ReturnsInHanded {} Tryz.checked os 9 .any (fun w args => (Rows.implBoundsSpec.pre enc Tryz.prog Tryz.f9 Rows.implBoundsRow.domain false w args ∧ laidMetH Tryz.prog Rows.implBoundsRow.laid w) ∧ sizedMet enc Tryz.prog Tryz.f9 (OpenSpec.ofChange Rows.implBoundsSpec) false w args)
      (Rows.implBoundsSpec.post enc Tryz.prog Tryz.f9 false true false false) := by
  refine returnsInHanded_of_change_and (C := Tryz.checked) (X := fun w _ => laidMetH Tryz.prog Rows.implBoundsRow.laid w) (fun _ _ _ hh h => laidMetH.of_heap hh h) own started (by kernel_rfl) Tryz.func9
    (ChangeSpec.witness_at (enc := enc) (C := Tryz.checked) (os := os) (X := fun w _ => laidMetH Tryz.prog Rows.implBoundsRow.laid w) false (laidWorld os) #[.agg #[.slice none 0 0, .int .i64 0, .string ⟨#[]⟩, .string ⟨#[]⟩, .slice none 0 0, .int .i64 0, .slice none 0 0, .slice none 0 0, .int .i64 0], .slice none 0 0, .slice none 0 0, .slice none 0 0] 8 rfl (by kernel_rfl) (by kernel_rfl) (by kernel_rfl) (by kernel_rfl) (by kernel_rfl) (laidWorld_met os _)) ?_
  intro W base args ds gs before hval0 hW hcnd hsz hL _
  have hval : ∀ (j : Nat) t v, Tryz.f9.params[j]? = some t → args[j]? = some v → Value.okWide Tryz.prog W .any base t v := hval0
  have hW1 := hW
  obtain ⟨p, q, hA0, hV, rfl, hfz, hnd⟩ := hW
  have hA : DataW.TrodAll enc Tryz.prog W 0 (fun _ => true) true Tryz.f9.params.toList args.toList ds p := hA0
  rw [Tryz.params9] at hA hval
  obtain ⟨v0, v1, v2, v3, d0, d1, d2, d3, p0, p1, p2, p3, rfl, rfl, rfl, h0, h1, h2, h3⟩ := trodAll_four hA
  obtain ⟨rfl, rfl⟩ := trodVars_none hV
  obtain ⟨w0, w1, w2, w3⟩ := weights_four (t0 := 30) (t1 := 46) (t2 := 46) (t3 := 23) hsz
  obtain ⟨x0, r0⟩ := arg_pr (hval 0 30 v0 rfl rfl) h0 w0 noNames
  obtain ⟨x1, r1⟩ := arg_fos (hval 1 46 v1 rfl rfl) h1 w1 noNames
  obtain ⟨x2, r2⟩ := arg_fos (hval 2 46 v2 rfl rfl) h2 w2 noNames
  obtain ⟨x3, r3⟩ := arg_tys (hval 3 23 v3 rfl rfl) h3 w3 noNames
  refine (law_calls (vs := [v0, v1, v2, v3]) (law13_bounds ok_awake x0 x1 x2 x3) (.cons r0 (.cons r1 (.cons r2 (.cons r3 .nil)))) (fixed_of_laid hL)).mono fun e W2 ⟨he, bel⟩ => ?_
  subst he
  exact ⟨_, rfl, _, _, _, [], _, [], hW1, trodAll_mk1 (shut_bool Tryz.underlying4 _), trodAll_mk4 (Below.trod laidOut (by kernel_rfl) (of_decide_eq_true (by kernel_rfl)) h0 bel (trod_block h0)) (Below.trod laidOut (by kernel_rfl) (of_decide_eq_true (by kernel_rfl)) h1 bel (trod_block h1)) (Below.trod laidOut (by kernel_rfl) (of_decide_eq_true (by kernel_rfl)) h2 bel (trod_block h2)) (Below.trod laidOut (by kernel_rfl) (of_decide_eq_true (by kernel_rfl)) h3 bel (trod_block h3)), rfl, bel.frame _, fun h => by cases h⟩
theorem implBounds_named : Tryz.pinned.checked.prog.funcNamed Rows.implBoundsRow.func = some 9 := by kernel_rfl
theorem implBounds_closed : joinedFacts Tryz.prog 9 Tryz.f9 Rows.implBoundsSpec Rows.implBoundsRow = true := by kernel_rfl
theorem implBounds_inst : Tryz.f9.isInstance Tryz.pinned.checked.prog Rows.implBoundsRow.origin Rows.implBoundsRow.targs := of_decide_eq_true (by kernel_rfl)
theorem implBounds_wrap : Tryz.f9.isWrapper Tryz.pinned.checked.prog Rows.implBoundsRow.wrapper Rows.implBoundsRow.mainSum := by unfold Func.isWrapper; first | (rw [if_pos (by decide +kernel)]; kernel_rfl) | (rw [if_neg (by decide +kernel)]; exact ⟨rfl, rfl⟩)
theorem implBounds_row : Rows.ImplBoundsSaid :=
  OpenClaim.holds_of_wide 9 Tryz.f9 rfl rfl rfl rfl rfl rfl rfl ⟨rfl, rfl, rfl, rfl, rfl⟩ rfl rfl rfl rfl rfl implBounds_named Tryz.func9 implBounds_closed
    implBounds_inst implBounds_wrap
    (fun os started H enc _ => lifted_implBounds os started H enc)
theorem implBounds_holds : Rows.ImplBoundsCardSaid :=
  Claim7.holds_tied_plain_at .later [] [.data, .data, .data, .handle] true (true, "a715cc74e62b1a36194da56284bacc18da132bd28290aadb0bf32919f76e3180") true
    implBounds_row (fun _ h => by cases h) (by kernel_rfl) (fun _ h => by cases h) implBounds_row_tie rfl ⟨rfl, rfl⟩ (by kernel_rfl) rfl
    (fun f fn hf hfn => by
      obtain rfl : f = 9 := Option.some.inj ((show Tryz.prog.funcNamed "castings/castingslaw13.ImplBounds" = some 9 by kernel_rfl).symm.trans hf) |>.symm
      obtain rfl : fn = Tryz.f9 := (Option.some.inj (Tryz.func9.symm.trans hfn)).symm
      exact ⟨by kernel_rfl, fun j t ht => by
        rw [Tryz.params9] at ht
        have hm : t ∈ [30, 46, 46, 23] := List.mem_of_getElem? (i := j) (by simpa using ht)
        simp only [List.mem_cons, List.not_mem_nil, or_false] at hm
        rcases hm with rfl | rfl | rfl | rfl
        · exact (show Tryz.prog.wantsStandIn 30 = false by kernel_rfl)
        · exact (show Tryz.prog.wantsStandIn 46 = false by kernel_rfl)
        · exact (show Tryz.prog.wantsStandIn 46 = false by kernel_rfl)
        · exact (show Tryz.prog.wantsStandIn 23 = false by kernel_rfl)⟩)
    (by kernel_rfl)
end Go.Proofs.YtenheogknlmohaaGreatDoor
