/- Implementing is reflexive and transitive, for every program of few parts, environment and three types -/
import Derived.Test.YtenheogknlmohaaGreatDoorZC13
import Derived.Test.YtenheogknlmohaaGreatDoorZS31
import Derived.Test.YtenheogknlmohaaGreatDoorZS30
namespace Go.Proofs.YtenheogknlmohaaGreatDoor
open Go Go.ChangeShapes Go.WideShapes Go.ChangeAt Go.RowKit Go.Abs
set_option linter.unusedVariables false
set_option maxRecDepth 100000 in
theorem lifted_implLaws (os : Os) (started : os.Started) (H : Type) (enc : TypeId × Value → H) :
    ReturnsInHanded {} Tryz.checked os 8 .any (fun w args => (Rows.implLawsSpec.pre enc Tryz.prog Tryz.f8 Rows.implLawsRow.domain false w args ∧ laidMetH Tryz.prog Rows.implLawsRow.laid w) ∧ sizedMet enc Tryz.prog Tryz.f8 (OpenSpec.ofChange Rows.implLawsSpec) false w args)
      (Rows.implLawsSpec.post enc Tryz.prog Tryz.f8 false true false false) := by
  refine returnsInHanded_of_change_and (C := Tryz.checked) (X := fun w _ => laidMetH Tryz.prog Rows.implLawsRow.laid w) (fun _ _ _ hh h => laidMetH.of_heap hh h) own started (by kernel_rfl) Tryz.func8
    (ChangeSpec.witness_at (enc := enc) (C := Tryz.checked) (os := os) (X := fun w _ => laidMetH Tryz.prog Rows.implLawsRow.laid w) false (laidWorld os) #[.agg #[.slice none 0 0, .int .i64 0, .string ⟨#[]⟩, .string ⟨#[]⟩, .slice none 0 0, .int .i64 0, .slice none 0 0, .slice none 0 0, .int .i64 0], .slice none 0 0, .agg #[.string ⟨#[]⟩, .slice none 0 0, .int .i64 0], .agg #[.string ⟨#[]⟩, .slice none 0 0, .int .i64 0], .agg #[.string ⟨#[]⟩, .slice none 0 0, .int .i64 0]] 8 rfl (by kernel_rfl) (by kernel_rfl) (by kernel_rfl) (by kernel_rfl) (by kernel_rfl) (laidWorld_met os _)) ?_
  intro W base args ds gs before hval0 hW hcnd hsz hL _
  have hval : ∀ (j : Nat) t v, Tryz.f8.params[j]? = some t → args[j]? = some v → Value.okWide Tryz.prog W .any base t v := hval0
  have hW1 := hW
  obtain ⟨p, q, hA0, hV, rfl, hfz, hnd⟩ := hW
  have hA : DataW.TrodAll enc Tryz.prog W 0 (fun _ => true) true Tryz.f8.params.toList args.toList ds p := hA0
  rw [Tryz.params8] at hA hval
  obtain ⟨v0, v1, v2, v3, v4, d0, d1, d2, d3, d4, p0, p1, p2, p3, p4, rfl, rfl, rfl, h0, h1, h2, h3, h4⟩ := trodAll_five hA
  obtain ⟨rfl, rfl⟩ := trodVars_none hV
  obtain ⟨w0, w1, w2, w3, w4⟩ := weights_five (t0 := 30) (t1 := 46) (t2 := 25) (t3 := 25) (t4 := 25) hsz
  obtain ⟨x0, r0⟩ := arg_pr (hval 0 30 v0 rfl rfl) h0 w0 noNames
  obtain ⟨x1, r1⟩ := arg_fos (hval 1 46 v1 rfl rfl) h1 w1 noNames
  obtain ⟨x2, r2⟩ := arg_ty (hval 2 25 v2 rfl rfl) h2 w2 noNames
  obtain ⟨x3, r3⟩ := arg_ty (hval 3 25 v3 rfl rfl) h3 w3 noNames
  obtain ⟨x4, r4⟩ := arg_ty (hval 4 25 v4 rfl rfl) h4 w4 noNames
  refine (law_calls (vs := [v0, v1, v2, v3, v4]) (law13_laws ok_awake x0 x1 x2 x3 x4) (.cons r0 (.cons r1 (.cons r2 (.cons r3 (.cons r4 .nil))))) (fixed_of_laid hL)).mono fun e W2 ⟨he, bel⟩ => ?_
  subst he
  exact ⟨_, rfl, _, _, _, [], _, [], hW1, trodAll_mk1 (shut_bool Tryz.underlying4 _), trodAll_mk5 (Below.trod laidOut (by kernel_rfl) (of_decide_eq_true (by kernel_rfl)) h0 bel (trod_block h0)) (Below.trod laidOut (by kernel_rfl) (of_decide_eq_true (by kernel_rfl)) h1 bel (trod_block h1)) (Below.trod laidOut (by kernel_rfl) (of_decide_eq_true (by kernel_rfl)) h2 bel (trod_block h2)) (Below.trod laidOut (by kernel_rfl) (of_decide_eq_true (by kernel_rfl)) h3 bel (trod_block h3)) (Below.trod laidOut (by kernel_rfl) (of_decide_eq_true (by kernel_rfl)) h4 bel (trod_block h4)), rfl, bel.frame _, fun h => by cases h⟩
theorem implLaws_named : Tryz.pinned.checked.prog.funcNamed Rows.implLawsRow.func = some 8 := by kernel_rfl
theorem implLaws_closed : joinedFacts Tryz.prog 8 Tryz.f8 Rows.implLawsSpec Rows.implLawsRow = true := by kernel_rfl
theorem implLaws_inst : Tryz.f8.isInstance Tryz.pinned.checked.prog Rows.implLawsRow.origin Rows.implLawsRow.targs := of_decide_eq_true (by kernel_rfl)
theorem implLaws_wrap : Tryz.f8.isWrapper Tryz.pinned.checked.prog Rows.implLawsRow.wrapper Rows.implLawsRow.mainSum := by unfold Func.isWrapper; first | (rw [if_pos (by decide +kernel)]; kernel_rfl) | (rw [if_neg (by decide +kernel)]; exact ⟨rfl, rfl⟩)
theorem implLaws_row : Rows.ImplLawsSaid :=
  OpenClaim.holds_of_wide 8 Tryz.f8 rfl rfl rfl rfl rfl rfl rfl ⟨rfl, rfl, rfl, rfl, rfl⟩ rfl rfl rfl rfl rfl implLaws_named Tryz.func8 implLaws_closed
    implLaws_inst implLaws_wrap
    (fun os started H enc _ => lifted_implLaws os started H enc)
theorem implLaws_holds : Rows.ImplLawsCardSaid :=
  Claim7.holds_tied_plain_at .later [] [.data, .data, .data, .handle] true (true, "a715cc74e62b1a36194da56284bacc18da132bd28290aadb0bf32919f76e3180") true
    implLaws_row (fun _ h => by cases h) (by kernel_rfl) (fun _ h => by cases h) implLaws_row_tie rfl ⟨rfl, rfl⟩ (by kernel_rfl) rfl
    (fun f fn hf hfn => by
      obtain rfl : f = 8 := Option.some.inj ((show Tryz.prog.funcNamed "castings/castingslaw13.ImplLaws" = some 8 by kernel_rfl).symm.trans hf) |>.symm
      obtain rfl : fn = Tryz.f8 := (Option.some.inj (Tryz.func8.symm.trans hfn)).symm
      exact ⟨by kernel_rfl, fun j t ht => by
        rw [Tryz.params8] at ht
        have hm : t ∈ [30, 46, 25, 25, 25] := List.mem_of_getElem? (i := j) (by simpa using ht)
        simp only [List.mem_cons, List.not_mem_nil, or_false] at hm
        rcases hm with rfl | rfl | rfl | rfl | rfl
        · exact (show Tryz.prog.wantsStandIn 30 = false by kernel_rfl)
        · exact (show Tryz.prog.wantsStandIn 46 = false by kernel_rfl)
        · exact (show Tryz.prog.wantsStandIn 25 = false by kernel_rfl)
        · exact (show Tryz.prog.wantsStandIn 25 = false by kernel_rfl)
        · exact (show Tryz.prog.wantsStandIn 25 = false by kernel_rfl)⟩)
    (by kernel_rfl)
end Go.Proofs.YtenheogknlmohaaGreatDoor
