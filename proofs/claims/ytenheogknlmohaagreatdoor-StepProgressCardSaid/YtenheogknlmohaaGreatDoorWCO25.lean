/- in a strictly well typed program, no expression that has a type is stuck -/
import Derived.Test.YtenheogknlmohaaGreatDoorWC25
import Derived.Test.YtenheogknlmohaaGreatDoorWS61
namespace Go.Proofs.YtenheogknlmohaaGreatDoor
set_option maxRecDepth 100000
set_option maxHeartbeats 1000000
open Go Go.ChangeShapes Go.WideShapes Go.ChangeAt Go.RowKit Go.Abs
set_option linter.unusedVariables false
theorem lifted_stepProgress (os:Os)(started:os.Started)(H:Type)(enc:TypeId × Value→H) :
  ReturnsInHanded {} Tryz.checked os 4 .any (fun w args=>(Rows.stepProgressSpec.pre enc Tryz.prog Tryz.f4 Rows.stepProgressRow.domain false w args∧laidMetH Tryz.prog Rows.stepProgressRow.laid w)∧sizedMet enc Tryz.prog Tryz.f4 (OpenSpec.ofChange Rows.stepProgressSpec) false w args)
   (Rows.stepProgressSpec.post enc Tryz.prog Tryz.f4 false true false false):=by
 refine returnsInHanded_of_change_and (C:=Tryz.checked) (X:=fun w _=>laidMetH Tryz.prog Rows.stepProgressRow.laid w) (fun _ _ _ hh h=>laidMetH.of_heap hh h) own started (by kernel_rfl) Tryz.func4
  (ChangeSpec.witness_at (enc:=enc) (C:=Tryz.checked) (os:=os) (X:=fun w _=>laidMetH Tryz.prog Rows.stepProgressRow.laid w) false (laidWorld os) #[.agg #[.slice none 0 0,.int .i64 0,.string ⟨#[]⟩,.string ⟨#[]⟩,.slice none 0 0,.int .i64 0,.slice none 0 0,.slice none 0 0,.int .i64 0],.agg #[.int .i64 0,.string ⟨#[]⟩,.string ⟨#[]⟩,.slice none 0 0,.int .i64 0,.slice none 0 0,.slice none 0 0,.int .i64 0]] 8 rfl (by kernel_rfl) (by kernel_rfl) (by kernel_rfl) (by kernel_rfl) (by kernel_rfl) (laidWorld_met os _)) ?_
 intro W base args ds gs before hval0 hW hcnd hsz hL _
 have hval:∀ (j:Nat) t v,Tryz.f4.params[j]? = some t→args[j]? = some v→Value.okWide Tryz.prog W .any base t v:=hval0
 have hW1:=hW
 obtain⟨p,q,hA0,hV,rfl,hfz,hnd⟩:=hW
 have hA:DataW.TrodAll enc Tryz.prog W 0 (fun _=>true) true Tryz.f4.params.toList args.toList ds p:=hA0
 rw [Tryz.params4] at hA hval
 obtain⟨v0,v1,d0,d1,p0,p1,rfl,rfl,rfl,h0,h1⟩:=trodAll_two hA
 obtain⟨rfl,rfl⟩:=trodVars_none hV
 obtain⟨w0,w1⟩:=weights_two (t0:=30) (t1:=28) hsz
 obtain⟨x0,r0⟩:=arg_pr (hval 0 30 v0 rfl rfl) h0 w0 noNames
 obtain⟨x1,r1⟩:=arg_ex (hval 1 28 v1 rfl rfl) h1 w1 noNames
 refine (law_calls (vs:=[v0,v1]) (law25_progress x0 x1) (.cons r0 (.cons r1 .nil)) (fixed_of_laid hL)).mono fun e W2 ⟨he,bel⟩=>?_
 subst he
 exact⟨_,rfl,_,_,_,[],_,[],hW1,trodAll_mk1 (shut_bool Tryz.underlying4 _),trodAll_mk2 (Below.trod laidOut (by kernel_rfl) (of_decide_eq_true (by kernel_rfl)) h0 bel (trod_block h0)) (Below.trod laidOut (by kernel_rfl) (of_decide_eq_true (by kernel_rfl)) h1 bel (trod_block h1)),rfl,bel.frame _,fun h=>by cases h⟩
theorem stepProgress_named:Tryz.pinned.checked.prog.funcNamed Rows.stepProgressRow.func=some 4:=by kernel_rfl
theorem stepProgress_closed:joinedFacts Tryz.prog 4 Tryz.f4 Rows.stepProgressSpec Rows.stepProgressRow=true:=by kernel_rfl
theorem stepProgress_inst:Tryz.f4.isInstance Tryz.pinned.checked.prog Rows.stepProgressRow.origin Rows.stepProgressRow.targs:=of_decide_eq_true (by kernel_rfl)
theorem stepProgress_wrap:Tryz.f4.isWrapper Tryz.pinned.checked.prog Rows.stepProgressRow.wrapper Rows.stepProgressRow.mainSum:=by unfold Func.isWrapper;first | (rw [if_pos (by decide +kernel)];kernel_rfl) | (rw [if_neg (by decide +kernel)];exact⟨rfl,rfl⟩)
theorem stepProgress_row:Rows.StepProgressSaid :=
 OpenClaim.holds_of_wide 4 Tryz.f4 rfl rfl rfl rfl rfl rfl rfl ⟨rfl,rfl,rfl,rfl,rfl⟩ rfl rfl rfl rfl rfl stepProgress_named Tryz.func4 stepProgress_closed
  stepProgress_inst stepProgress_wrap
  (fun os started H enc _=>lifted_stepProgress os started H enc)
theorem stepProgress_holds:Rows.StepProgressCardSaid :=
 Claim7.holds_tied_plain_at .later [] [.data,.data,.data] true (true, "a715cc74e62b1a36194da56284bacc18da132bd28290aadb0bf32919f76e3180") true
  stepProgress_row (fun _ h=>by cases h) (by kernel_rfl) (fun _ h=>by cases h) stepProgress_row_tie rfl ⟨rfl,rfl⟩ (by kernel_rfl) rfl
  (fun f fn hf hfn=>by
   obtain rfl:f=4:=Option.some.inj ((show Tryz.prog.funcNamed "castings/castingslaw25.StepProgress" = some 4 by kernel_rfl).symm.trans hf) |>.symm
   obtain rfl:fn=Tryz.f4:=(Option.some.inj (Tryz.func4.symm.trans hfn)).symm
   exact⟨by kernel_rfl,fun j t ht=>by
    rw [Tryz.params4] at ht
    have hm:t∈[30,28]:=List.mem_of_getElem? (i:=j) (by simpa using ht)
    simp only [List.mem_cons,List.not_mem_nil,or_false] at hm
    rcases hm with rfl | rfl
    ·exact (show Tryz.prog.wantsStandIn 30=false by kernel_rfl)
    ·exact (show Tryz.prog.wantsStandIn 28=false by kernel_rfl)⟩)
  (by kernel_rfl)
end Go.Proofs.YtenheogknlmohaaGreatDoor
