/- the trace of any program has the texts of its expressions -/
import Derived.Test.YtdohpbjgaaneeaaGreatDoorQC26
import Derived.Test.YtdohpbjgaaneeaaGreatDoorQS98
namespace Go.Proofs.YtdohpbjgaaneeaaGreatDoor
set_option maxRecDepth 100000
set_option maxHeartbeats 1000000
open Go Go.ChangeShapes Go.WideShapes Go.ChangeAt Go.RowKit Go.Abs
set_option linter.unusedVariables false
theorem lifted_runTraces (os:Os)(started:os.Started)(H:Type)(enc:TypeId × Value→H) :
  ReturnsInHanded {} Tryz.checked os 9 .any (fun w args=>(Rows.runTracesSpec.pre enc Tryz.prog Tryz.f9 Rows.runTracesRow.domain false w args∧laidMetH Tryz.prog Rows.runTracesRow.laid w)∧sizedMet enc Tryz.prog Tryz.f9 (OpenSpec.ofChange Rows.runTracesSpec) false w args)
   (Rows.runTracesSpec.post enc Tryz.prog Tryz.f9 false true false false):=by
 refine returnsInHanded_of_change_and (C:=Tryz.checked) (X:=fun w _=>laidMetH Tryz.prog Rows.runTracesRow.laid w) (fun _ _ _ hh h=>laidMetH.of_heap hh h) own started (by kernel_rfl) Tryz.func9
  (ChangeSpec.witness_at (enc:=enc) (C:=Tryz.checked) (os:=os) (X:=fun w _=>laidMetH Tryz.prog Rows.runTracesRow.laid w) false (laidWorld os) #[.agg #[.slice none 0 0,.int .i64 0,.string ⟨#[]⟩,.string ⟨#[]⟩,.slice none 0 0,.int .i64 0,.slice none 0 0,.slice none 0 0,.int .i64 0],.int .u8 0] 8 rfl (by kernel_rfl) (by kernel_rfl) (by kernel_rfl) (by kernel_rfl) (by kernel_rfl) (laidWorld_met os _)) ?_
 intro W base args ds gs before hval0 hW hcnd hsz hL _
 have hval:∀ (j:Nat) t v,Tryz.f9.params[j]? = some t→args[j]? = some v→Value.okWide Tryz.prog W .any base t v:=hval0
 have hW1:=hW
 obtain⟨p,q,hA0,hV,rfl,hfz,hnd⟩:=hW
 have hA:DataW.TrodAll enc Tryz.prog W 0 (fun _=>true) true Tryz.f9.params.toList args.toList ds p:=hA0
 rw [Tryz.params9] at hA hval
 obtain⟨v0,v1,d0,d1,p0,p1,rfl,rfl,rfl,h0,h1⟩:=trodAll_two hA
 obtain⟨rfl,rfl⟩:=trodVars_none hV
 obtain⟨w0,w1⟩:=weights_two (t0:=30) (t1:=5) hsz
 obtain⟨x0,r0⟩:=arg_pr (hval 0 30 v0 rfl rfl) h0 w0 noNames
 obtain⟨x1,r1,g1⟩:=arg_int Tryz.underlying5 (hval 1 5 v1 rfl rfl) h1 noNames
 obtain⟨_,_,hfx⟩:=fixed_of_laid hL
 refine (law_calls (vs:=[v0,v1]) (law26_traces x0 x1 g1) (.cons r0 (.cons r1 .nil)) hfx).mono fun e W2 ⟨he,bel⟩=>?_
 subst he
 exact⟨_,rfl,_,_,_,[],_,[],hW1,trodAll_mk1 (shut_bool Tryz.underlying4 _),trodAll_mk2 (Below.trod laidOut (by kernel_rfl) (of_decide_eq_true (by kernel_rfl)) h0 bel (trod_block h0)) (Below.trod laidOut (by kernel_rfl) (of_decide_eq_true (by kernel_rfl)) h1 bel (trod_block h1)),rfl,bel.frame _,fun h=>by cases h⟩
theorem k0:Tryz.pinned.checked.prog.funcNamed Rows.runTracesRow.func=some 9:=by kernel_rfl
theorem runTraces_cinPlace:(Rows.runTracesRow.inPlace == Tryz.prog.inPlace 9)=true:=by kernel_rfl
theorem runTraces_cunfollowed:(Rows.runTracesRow.unfollowed == Tryz.prog.unfollowed 9)=true:=by kernel_rfl
theorem runTraces_crecurses:(Rows.runTracesRow.recurses == Tryz.prog.recurses 9)=true:=by kernel_rfl
theorem runTraces_cnamed:(Rows.runTracesRow.named == Tryz.prog.varsNamed 9)=true:=by kernel_rfl
theorem k1:joinedFacts Tryz.prog 9 Tryz.f9 Rows.runTracesSpec Rows.runTracesRow=true:=by
 unfold joinedFacts
 rw [runTraces_cinPlace,runTraces_cunfollowed,runTraces_crecurses,runTraces_cnamed,laidOut,f_maps,f_heard,f_enter,f_lifts,f_make]
 kernel_rfl
theorem runTraces_wfT:Rows.runTracesRow.wfByText (OpenSpec.ofChange Rows.runTracesSpec)=true:=by kernel_rfl
theorem runTraces_looks:true=Tryz.prog.looks []:=by kernel_rfl
theorem runTraces_goes:false=Rows.runTracesRow.goesBy Tryz.prog:=goes_row rfl
theorem k2:Tryz.f9.isInstance Tryz.pinned.checked.prog Rows.runTracesRow.origin Rows.runTracesRow.targs:=of_decide_eq_true (by kernel_rfl)
theorem k3:Tryz.f9.isWrapper Tryz.pinned.checked.prog Rows.runTracesRow.wrapper Rows.runTracesRow.mainSum:=by unfold Func.isWrapper;first | (rw [if_pos (by decide +kernel)];kernel_rfl) | (rw [if_neg (by decide +kernel)];exact⟨rfl,rfl⟩)
theorem k4:Rows.RunTracesSaid :=
 OpenClaim.holds_of_wide 9 Tryz.f9 rfl rfl rfl rfl rfl rfl rfl ⟨rfl,rfl,rfl,rfl,rfl⟩ rfl rfl rfl rfl rfl k0 Tryz.func9 k1
  k2 k3
  (fun os started H enc _=>lifted_runTraces os started H enc)
theorem runTraces_holds:Rows.RunTracesCardSaid :=
 Claim7.holds_tied_plain_at .later [] [.data,.data,.data,.data,.sentinel,.sentinel,.data,.pinned] true (true, "1398447de3b740640de0e12fa7f10c3ac33f1421a626ded3d76adf5a72bb31e8") true
  k4 (fun _ h=>by cases h) runTraces_wfT (fun _ h=>by cases h) runTraces_row_tie rfl ⟨rfl,rfl⟩ (by kernel_rfl) rfl
  (fun f fn hf hfn=>by
   obtain rfl:f=9:=Option.some.inj ((show Tryz.prog.funcNamed "castings/castingslaw26.RunTraces" = some 9 by kernel_rfl).symm.trans hf) |>.symm
   obtain rfl:fn=Tryz.f9:=(Option.some.inj (Tryz.func9.symm.trans hfn)).symm
   exact⟨runTraces_looks,fun j t ht=>by
    rw [Tryz.params9] at ht
    have hm:t∈[30,5]:=List.mem_of_getElem? (i:=j) (by simpa using ht)
    simp only [List.mem_cons,List.not_mem_nil,or_false] at hm
    rcases hm with rfl | rfl
    ·exact (show Tryz.prog.wantsStandIn 30=false by kernel_rfl)
    ·exact (show Tryz.prog.wantsStandIn 5=false by kernel_rfl)⟩)
  runTraces_goes
end Go.Proofs.YtdohpbjgaaneeaaGreatDoor
