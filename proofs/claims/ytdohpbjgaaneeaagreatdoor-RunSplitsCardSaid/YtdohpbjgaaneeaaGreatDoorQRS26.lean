/- running with some fuel, and then on from the last expression with more, is running with both -/
import Derived.Test.YtdohpbjgaaneeaaGreatDoorQC26
import Derived.Test.YtdohpbjgaaneeaaGreatDoorQS98
namespace Go.Proofs.YtdohpbjgaaneeaaGreatDoor
set_option maxRecDepth 100000
set_option maxHeartbeats 1000000
open Go Go.ChangeShapes Go.WideShapes Go.ChangeAt Go.RowKit Go.Abs
set_option linter.unusedVariables false
theorem lifted_runSplits (os:Os)(started:os.Started)(H:Type)(enc:TypeId × Value→H) :
  ReturnsInHanded {} Tryz.checked os 12 .any (fun w args=>(Rows.runSplitsSpec.pre enc Tryz.prog Tryz.f12 Rows.runSplitsRow.domain false w args∧laidMetH Tryz.prog Rows.runSplitsRow.laid w)∧sizedMet enc Tryz.prog Tryz.f12 (OpenSpec.ofChange Rows.runSplitsSpec) false w args)
   (Rows.runSplitsSpec.post enc Tryz.prog Tryz.f12 false true false false):=by
 refine returnsInHanded_of_change_and (C:=Tryz.checked) (X:=fun w _=>laidMetH Tryz.prog Rows.runSplitsRow.laid w) (fun _ _ _ hh h=>laidMetH.of_heap hh h) own started (by kernel_rfl) Tryz.func12
  (ChangeSpec.witness_at (enc:=enc) (C:=Tryz.checked) (os:=os) (X:=fun w _=>laidMetH Tryz.prog Rows.runSplitsRow.laid w) false (laidWorld os) #[.agg #[.slice none 0 0,.int .i64 0,.string ⟨#[]⟩,.string ⟨#[]⟩,.slice none 0 0,.int .i64 0,.slice none 0 0,.slice none 0 0,.int .i64 0],.int .u8 0,.int .u8 0] 8 rfl (by kernel_rfl) (by kernel_rfl) (by kernel_rfl) (by kernel_rfl) (by kernel_rfl) (laidWorld_met os _)) ?_
 intro W base args ds gs before hval0 hW hcnd hsz hL _
 have hval:∀ (j:Nat) t v,Tryz.f12.params[j]? = some t→args[j]? = some v→Value.okWide Tryz.prog W .any base t v:=hval0
 have hW1:=hW
 obtain⟨p,q,hA0,hV,rfl,hfz,hnd⟩:=hW
 have hA:DataW.TrodAll enc Tryz.prog W 0 (fun _=>true) true Tryz.f12.params.toList args.toList ds p:=hA0
 rw [Tryz.params12] at hA hval
 obtain⟨v0,v1,v2,d0,d1,d2,p0,p1,p2,rfl,rfl,rfl,h0,h1,h2⟩:=trodAll_three hA
 obtain⟨rfl,rfl⟩:=trodVars_none hV
 obtain⟨w0,w1,w2⟩:=weights_three (t0:=30) (t1:=5) (t2:=5) hsz
 obtain⟨x0,r0⟩:=arg_pr (hval 0 30 v0 rfl rfl) h0 w0 noNames
 obtain⟨x1,r1,g1⟩:=arg_int Tryz.underlying5 (hval 1 5 v1 rfl rfl) h1 noNames
 obtain⟨x2,r2,g2⟩:=arg_int Tryz.underlying5 (hval 2 5 v2 rfl rfl) h2 noNames
 obtain⟨_,_,hfx⟩:=fixed_of_laid hL
 refine (law_calls (vs:=[v0,v1,v2]) (law26_splits x0 x1 g1 x2 g2) (.cons r0 (.cons r1 (.cons r2 .nil))) hfx).mono fun e W2 ⟨he,bel⟩=>?_
 subst he
 exact⟨_,rfl,_,_,_,[],_,[],hW1,trodAll_mk1 (shut_bool Tryz.underlying4 _),trodAll_mk3 (Below.trod laidOut (by kernel_rfl) (of_decide_eq_true (by kernel_rfl)) h0 bel (trod_block h0)) (Below.trod laidOut (by kernel_rfl) (of_decide_eq_true (by kernel_rfl)) h1 bel (trod_block h1)) (Below.trod laidOut (by kernel_rfl) (of_decide_eq_true (by kernel_rfl)) h2 bel (trod_block h2)),rfl,bel.frame _,fun h=>by cases h⟩
theorem k0:Tryz.pinned.checked.prog.funcNamed Rows.runSplitsRow.func=some 12:=by kernel_rfl
theorem runSplits_cinPlace:(Rows.runSplitsRow.inPlace == Tryz.prog.inPlace 12)=true:=by kernel_rfl
theorem runSplits_cunfollowed:(Rows.runSplitsRow.unfollowed == Tryz.prog.unfollowed 12)=true:=by kernel_rfl
theorem runSplits_crecurses:(Rows.runSplitsRow.recurses == Tryz.prog.recurses 12)=true:=by kernel_rfl
theorem runSplits_cnamed:(Rows.runSplitsRow.named == Tryz.prog.varsNamed 12)=true:=by kernel_rfl
theorem k1:joinedFacts Tryz.prog 12 Tryz.f12 Rows.runSplitsSpec Rows.runSplitsRow=true:=by
 unfold joinedFacts
 rw [runSplits_cinPlace,runSplits_cunfollowed,runSplits_crecurses,runSplits_cnamed,laidOut,f_maps,f_heard,f_enter,f_lifts,f_make]
 kernel_rfl
theorem runSplits_wfT:Rows.runSplitsRow.wfByText (OpenSpec.ofChange Rows.runSplitsSpec)=true:=by kernel_rfl
theorem runSplits_looks:true=Tryz.prog.looks []:=by kernel_rfl
theorem runSplits_goes:false=Rows.runSplitsRow.goesBy Tryz.prog:=goes_row rfl
theorem k2:Tryz.f12.isInstance Tryz.pinned.checked.prog Rows.runSplitsRow.origin Rows.runSplitsRow.targs:=of_decide_eq_true (by kernel_rfl)
theorem k3:Tryz.f12.isWrapper Tryz.pinned.checked.prog Rows.runSplitsRow.wrapper Rows.runSplitsRow.mainSum:=by unfold Func.isWrapper;first | (rw [if_pos (by decide +kernel)];kernel_rfl) | (rw [if_neg (by decide +kernel)];exact⟨rfl,rfl⟩)
theorem k4:Rows.RunSplitsSaid :=
 OpenClaim.holds_of_wide 12 Tryz.f12 rfl rfl rfl rfl rfl rfl rfl ⟨rfl,rfl,rfl,rfl,rfl⟩ rfl rfl rfl rfl rfl k0 Tryz.func12 k1
  k2 k3
  (fun os started H enc _=>lifted_runSplits os started H enc)
theorem runSplits_holds:Rows.RunSplitsCardSaid :=
 Claim7.holds_tied_plain_at .later [] [.data,.data,.data,.data,.sentinel,.sentinel,.data,.pinned] true (true, "1398447de3b740640de0e12fa7f10c3ac33f1421a626ded3d76adf5a72bb31e8") true
  k4 (fun _ h=>by cases h) runSplits_wfT (fun _ h=>by cases h) runSplits_row_tie rfl ⟨rfl,rfl⟩ (by kernel_rfl) rfl
  (fun f fn hf hfn=>by
   obtain rfl:f=12:=Option.some.inj ((show Tryz.prog.funcNamed "castings/castingslaw26.RunSplits" = some 12 by kernel_rfl).symm.trans hf) |>.symm
   obtain rfl:fn=Tryz.f12:=(Option.some.inj (Tryz.func12.symm.trans hfn)).symm
   exact⟨runSplits_looks,fun j t ht=>by
    rw [Tryz.params12] at ht
    have hm:t∈[30,5,5]:=List.mem_of_getElem? (i:=j) (by simpa using ht)
    simp only [List.mem_cons,List.not_mem_nil,or_false] at hm
    rcases hm with rfl | rfl | rfl
    ·exact (show Tryz.prog.wantsStandIn 30=false by kernel_rfl)
    ·exact (show Tryz.prog.wantsStandIn 5=false by kernel_rfl)
    ·exact (show Tryz.prog.wantsStandIn 5=false by kernel_rfl)⟩)
  runSplits_goes
end Go.Proofs.YtdohpbjgaaneeaaGreatDoor
