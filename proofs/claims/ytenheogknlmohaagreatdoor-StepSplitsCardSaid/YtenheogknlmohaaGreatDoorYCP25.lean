/- some steps, and some more from where they lead to, are as many steps at once -/
import Derived.Test.YtenheogknlmohaaGreatDoorYC25
import Derived.Test.YtenheogknlmohaaGreatDoorYS45
namespace Go.Proofs.YtenheogknlmohaaGreatDoor
open Go Go.ChangeShapes Go.WideShapes Go.ChangeAt Go.RowKit Go.Abs
set_option linter.unusedVariables false
set_option maxRecDepth 100000 in
theorem lifted_stepSplits (os:Os)(started:os.Started)(H:Type)(enc:TypeId × Value→H) :
  ReturnsInHanded {} Tryz.checked os 5 .any (fun w args=>(Rows.stepSplitsSpec.pre enc Tryz.prog Tryz.f5 Rows.stepSplitsRow.domain false w args∧laidMetH Tryz.prog Rows.stepSplitsRow.laid w)∧sizedMet enc Tryz.prog Tryz.f5 (OpenSpec.ofChange Rows.stepSplitsSpec) false w args)
   (Rows.stepSplitsSpec.post enc Tryz.prog Tryz.f5 false true false false):=by
 refine returnsInHanded_of_change_and (C:=Tryz.checked) (X:=fun w _=>laidMetH Tryz.prog Rows.stepSplitsRow.laid w) (fun _ _ _ hh h=>laidMetH.of_heap hh h) own started (by kernel_rfl) Tryz.func5
  (ChangeSpec.witness_at (enc:=enc) (C:=Tryz.checked) (os:=os) (X:=fun w _=>laidMetH Tryz.prog Rows.stepSplitsRow.laid w) false (laidWorld os) #[.agg #[.slice none 0 0,.int .i64 0,.string ⟨#[]⟩,.string ⟨#[]⟩,.slice none 0 0,.int .i64 0,.slice none 0 0,.slice none 0 0,.int .i64 0],.agg #[.int .i64 0,.string ⟨#[]⟩,.string ⟨#[]⟩,.slice none 0 0,.int .i64 0,.slice none 0 0,.slice none 0 0,.int .i64 0],.int .u8 0,.int .u8 0] 8 rfl (by kernel_rfl) (by kernel_rfl) (by kernel_rfl) (by kernel_rfl) (by kernel_rfl) (laidWorld_met os _)) ?_
 intro W base args ds gs before hval0 hW hcnd hsz hL _
 have hval:∀ (j:Nat) t v,Tryz.f5.params[j]? = some t→args[j]? = some v→Value.okWide Tryz.prog W .any base t v:=hval0
 have hW1:=hW
 obtain⟨p,q,hA0,hV,rfl,hfz,hnd⟩:=hW
 have hA:DataW.TrodAll enc Tryz.prog W 0 (fun _=>true) true Tryz.f5.params.toList args.toList ds p:=hA0
 rw [Tryz.params5] at hA hval
 obtain⟨v0,v1,v2,v3,d0,d1,d2,d3,p0,p1,p2,p3,rfl,rfl,rfl,h0,h1,h2,h3⟩:=trodAll_four hA
 obtain⟨rfl,rfl⟩:=trodVars_none hV
 obtain⟨w0,w1,w2,w3⟩:=weights_four (t0:=30) (t1:=28) (t2:=5) (t3:=5) hsz
 obtain⟨x0,r0⟩:=arg_pr (hval 0 30 v0 rfl rfl) h0 w0 noNames
 obtain⟨x1,r1⟩:=arg_ex (hval 1 28 v1 rfl rfl) h1 w1 noNames
 obtain⟨x2,r2,g2⟩:=arg_int Tryz.underlying5 (hval 2 5 v2 rfl rfl) h2 noNames
 obtain⟨x3,r3,g3⟩:=arg_int Tryz.underlying5 (hval 3 5 v3 rfl rfl) h3 noNames
 refine (law_calls (vs:=[v0,v1,v2,v3]) (law25_splits x0 x1 x2 g2 x3 g3) (.cons r0 (.cons r1 (.cons r2 (.cons r3 .nil)))) (fixed_of_laid hL)).mono fun e W2 ⟨he,bel⟩=>?_
 subst he
 exact⟨_,rfl,_,_,_,[],_,[],hW1,trodAll_mk1 (shut_bool Tryz.underlying4 _),trodAll_mk4 (Below.trod laidOut (by kernel_rfl) (of_decide_eq_true (by kernel_rfl)) h0 bel (trod_block h0)) (Below.trod laidOut (by kernel_rfl) (of_decide_eq_true (by kernel_rfl)) h1 bel (trod_block h1)) (Below.trod laidOut (by kernel_rfl) (of_decide_eq_true (by kernel_rfl)) h2 bel (trod_block h2)) (Below.trod laidOut (by kernel_rfl) (of_decide_eq_true (by kernel_rfl)) h3 bel (trod_block h3)),rfl,bel.frame _,fun h=>by cases h⟩
theorem stepSplits_named:Tryz.pinned.checked.prog.funcNamed Rows.stepSplitsRow.func=some 5:=by kernel_rfl
theorem stepSplits_closed:joinedFacts Tryz.prog 5 Tryz.f5 Rows.stepSplitsSpec Rows.stepSplitsRow=true:=by kernel_rfl
theorem stepSplits_inst:Tryz.f5.isInstance Tryz.pinned.checked.prog Rows.stepSplitsRow.origin Rows.stepSplitsRow.targs:=of_decide_eq_true (by kernel_rfl)
theorem stepSplits_wrap:Tryz.f5.isWrapper Tryz.pinned.checked.prog Rows.stepSplitsRow.wrapper Rows.stepSplitsRow.mainSum:=by unfold Func.isWrapper;first | (rw [if_pos (by decide +kernel)];kernel_rfl) | (rw [if_neg (by decide +kernel)];exact⟨rfl,rfl⟩)
theorem stepSplits_row:Rows.StepSplitsSaid :=
 OpenClaim.holds_of_wide 5 Tryz.f5 rfl rfl rfl rfl rfl rfl rfl ⟨rfl,rfl,rfl,rfl,rfl⟩ rfl rfl rfl rfl rfl stepSplits_named Tryz.func5 stepSplits_closed
  stepSplits_inst stepSplits_wrap
  (fun os started H enc _=>lifted_stepSplits os started H enc)
theorem stepSplits_holds:Rows.StepSplitsCardSaid :=
 Claim7.holds_tied_plain_at .later [] [.data,.data,.data] true (true, "a715cc74e62b1a36194da56284bacc18da132bd28290aadb0bf32919f76e3180") true
  stepSplits_row (fun _ h=>by cases h) (by kernel_rfl) (fun _ h=>by cases h) stepSplits_row_tie rfl ⟨rfl,rfl⟩ (by kernel_rfl) rfl
  (fun f fn hf hfn=>by
   obtain rfl:f=5:=Option.some.inj ((show Tryz.prog.funcNamed "castings/castingslaw25.StepSplits" = some 5 by kernel_rfl).symm.trans hf) |>.symm
   obtain rfl:fn=Tryz.f5:=(Option.some.inj (Tryz.func5.symm.trans hfn)).symm
   exact⟨by kernel_rfl,fun j t ht=>by
    rw [Tryz.params5] at ht
    have hm:t∈[30,28,5,5]:=List.mem_of_getElem? (i:=j) (by simpa using ht)
    simp only [List.mem_cons,List.not_mem_nil,or_false] at hm
    rcases hm with rfl | rfl | rfl | rfl
    ·exact (show Tryz.prog.wantsStandIn 30=false by kernel_rfl)
    ·exact (show Tryz.prog.wantsStandIn 28=false by kernel_rfl)
    ·exact (show Tryz.prog.wantsStandIn 5=false by kernel_rfl)
    ·exact (show Tryz.prog.wantsStandIn 5=false by kernel_rfl)⟩)
  (by kernel_rfl)
end Go.Proofs.YtenheogknlmohaaGreatDoor
