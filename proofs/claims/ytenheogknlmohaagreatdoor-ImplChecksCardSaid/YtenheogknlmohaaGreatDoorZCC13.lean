/- Check and All answer as in the reference, for every program of few parts, environment and two types -/
import Derived.Test.YtenheogknlmohaaGreatDoorZC13
import Derived.Test.YtenheogknlmohaaGreatDoorZS31
import Derived.Test.YtenheogknlmohaaGreatDoorZS30
namespace Go.Proofs.YtenheogknlmohaaGreatDoor
open Go Go.ChangeShapes Go.WideShapes Go.ChangeAt Go.RowKit Go.Abs
set_option linter.unusedVariables false
set_option maxRecDepth 100000 in
theorem lifted_implChecks (os : Os) (started : os.Started) (H : Type) (enc : TypeId × Value → H) :
    ReturnsInHanded {} Tryz.checked os 7 .any (fun w args => (Rows.implChecksSpec.pre enc Tryz.prog Tryz.f7 Rows.implChecksRow.domain false w args ∧ laidMetH Tryz.prog Rows.implChecksRow.laid w) ∧ sizedMet enc Tryz.prog Tryz.f7 (OpenSpec.ofChange Rows.implChecksSpec) false w args)
      (Rows.implChecksSpec.post enc Tryz.prog Tryz.f7 false true false false) := by
  refine returnsInHanded_of_change_and (C := Tryz.checked) (X := fun w _ => laidMetH Tryz.prog Rows.implChecksRow.laid w) (fun _ _ _ hh h => laidMetH.of_heap hh h) own started (by kernel_rfl) Tryz.func7
    (ChangeSpec.witness_at (enc := enc) (C := Tryz.checked) (os := os) (X := fun w _ => laidMetH Tryz.prog Rows.implChecksRow.laid w) false (laidWorld os) #[.agg #[.slice none 0 0, .int .i64 0, .string ⟨#[]⟩, .string ⟨#[]⟩, .slice none 0 0, .int .i64 0, .slice none 0 0, .slice none 0 0, .int .i64 0], .slice none 0 0, .agg #[.string ⟨#[]⟩, .slice none 0 0, .int .i64 0], .agg #[.string ⟨#[]⟩, .slice none 0 0, .int .i64 0]] 8 rfl (by kernel_rfl) (by kernel_rfl) (by kernel_rfl) (by kernel_rfl) (by kernel_rfl) (laidWorld_met os _)) ?_
  intro W base args ds gs before hval0 hW hcnd hsz hL _
  have hval : ∀ (j : Nat) t v, Tryz.f7.params[j]? = some t → args[j]? = some v → Value.okWide Tryz.prog W .any base t v := hval0
  have hW1 := hW
  obtain ⟨p, q, hA0, hV, rfl, hfz, hnd⟩ := hW
  have hA : DataW.TrodAll enc Tryz.prog W 0 (fun _ => true) true Tryz.f7.params.toList args.toList ds p := hA0
  rw [Tryz.params7] at hA hval
  obtain ⟨v0, v1, v2, v3, d0, d1, d2, d3, p0, p1, p2, p3, rfl, rfl, rfl, h0, h1, h2, h3⟩ := trodAll_four hA
  obtain ⟨rfl, rfl⟩ := trodVars_none hV
  obtain ⟨w0, w1, w2, w3⟩ := weights_four (t0 := 30) (t1 := 46) (t2 := 25) (t3 := 25) hsz
  obtain ⟨x0, r0⟩ := arg_pr (hval 0 30 v0 rfl rfl) h0 w0 noNames
  obtain ⟨x1, r1⟩ := arg_fos (hval 1 46 v1 rfl rfl) h1 w1 noNames
  obtain ⟨x2, r2⟩ := arg_ty (hval 2 25 v2 rfl rfl) h2 w2 noNames
  obtain ⟨x3, r3⟩ := arg_ty (hval 3 25 v3 rfl rfl) h3 w3 noNames
  refine (law_calls (vs := [v0, v1, v2, v3]) (law13_checks ok_awake x0 x1 x2 x3) (.cons r0 (.cons r1 (.cons r2 (.cons r3 .nil)))) (fixed_of_laid hL)).mono fun e W2 ⟨he, bel⟩ => ?_
  subst he
  exact ⟨_, rfl, _, _, _, [], _, [], hW1, trodAll_mk1 (shut_bool Tryz.underlying4 _), trodAll_mk4 (Below.trod laidOut (by kernel_rfl) (of_decide_eq_true (by kernel_rfl)) h0 bel (trod_block h0)) (Below.trod laidOut (by kernel_rfl) (of_decide_eq_true (by kernel_rfl)) h1 bel (trod_block h1)) (Below.trod laidOut (by kernel_rfl) (of_decide_eq_true (by kernel_rfl)) h2 bel (trod_block h2)) (Below.trod laidOut (by kernel_rfl) (of_decide_eq_true (by kernel_rfl)) h3 bel (trod_block h3)), rfl, bel.frame _, fun h => by cases h⟩
theorem implChecks_named : Tryz.pinned.checked.prog.funcNamed Rows.implChecksRow.func = some 7 := by kernel_rfl
theorem implChecks_closed : joinedFacts Tryz.prog 7 Tryz.f7 Rows.implChecksSpec Rows.implChecksRow = true := by kernel_rfl
theorem implChecks_inst : Tryz.f7.isInstance Tryz.pinned.checked.prog Rows.implChecksRow.origin Rows.implChecksRow.targs := of_decide_eq_true (by kernel_rfl)
theorem implChecks_wrap : Tryz.f7.isWrapper Tryz.pinned.checked.prog Rows.implChecksRow.wrapper Rows.implChecksRow.mainSum := by unfold Func.isWrapper; first | (rw [if_pos (by decide +kernel)]; kernel_rfl) | (rw [if_neg (by decide +kernel)]; exact ⟨rfl, rfl⟩)
theorem implChecks_row : Rows.ImplChecksSaid :=
  OpenClaim.holds_of_wide 7 Tryz.f7 rfl rfl rfl rfl rfl rfl rfl ⟨rfl, rfl, rfl, rfl, rfl⟩ rfl rfl rfl rfl rfl implChecks_named Tryz.func7 implChecks_closed
    implChecks_inst implChecks_wrap
    (fun os started H enc _ => lifted_implChecks os started H enc)
theorem implChecks_holds : Rows.ImplChecksCardSaid :=
  Claim7.holds_tied_plain_at .later [] [.data, .data, .data, .handle] true (true, "a715cc74e62b1a36194da56284bacc18da132bd28290aadb0bf32919f76e3180") true
    implChecks_row (fun _ h => by cases h) (by kernel_rfl) (fun _ h => by cases h) implChecks_row_tie rfl ⟨rfl, rfl⟩ (by kernel_rfl) rfl
    (fun f fn hf hfn => by
      obtain rfl : f = 7 := Option.some.inj ((show Tryz.prog.funcNamed "castings/castingslaw13.ImplChecks" = some 7 by kernel_rfl).symm.trans hf) |>.symm
      obtain rfl : fn = Tryz.f7 := (Option.some.inj (Tryz.func7.symm.trans hfn)).symm
      exact ⟨by kernel_rfl, fun j t ht => by
        rw [Tryz.params7] at ht
        have hm : t ∈ [30, 46, 25, 25] := List.mem_of_getElem? (i := j) (by simpa using ht)
        simp only [List.mem_cons, List.not_mem_nil, or_false] at hm
        rcases hm with rfl | rfl | rfl | rfl
        · exact (show Tryz.prog.wantsStandIn 30 = false by kernel_rfl)
        · exact (show Tryz.prog.wantsStandIn 46 = false by kernel_rfl)
        · exact (show Tryz.prog.wantsStandIn 25 = false by kernel_rfl)
        · exact (show Tryz.prog.wantsStandIn 25 = false by kernel_rfl)⟩)
    (by kernel_rfl)
end Go.Proofs.YtenheogknlmohaaGreatDoor
