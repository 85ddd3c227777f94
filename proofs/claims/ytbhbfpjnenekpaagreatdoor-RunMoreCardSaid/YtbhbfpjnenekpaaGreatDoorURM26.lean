/- with more fuel, a result with another outcome than Fuel stays the same; a strictly well typed program is never stuck -/
import Derived.Test.YtbhbfpjnenekpaaGreatDoorUC26
import Derived.Test.YtbhbfpjnenekpaaGreatDoorUS99
namespace Go.Proofs.YtbhbfpjnenekpaaGreatDoor
set_option maxRecDepth 100000
set_option maxHeartbeats 1000000
open Go Go.ChangeShapes Go.WideShapes Go.ChangeAt Go.RowKit Go.Abs
set_option linter.unusedVariables false
theorem lifted_runMore (os:Os)(started:os.Started)(H:Type)(enc:TypeId × Value→H) :
  ReturnsInHanded {} Tryz.checked os 6 .any (fun w args=>(Rows.runMoreSpec.pre enc Tryz.prog Tryz.f6 Rows.runMoreRow.domain false w args∧laidMetH Tryz.prog Rows.runMoreRow.laid w)∧sizedMet enc Tryz.prog Tryz.f6 (OpenSpec.ofChange Rows.runMoreSpec) false w args)
   (Rows.runMoreSpec.post enc Tryz.prog Tryz.f6 false true false false):=by
 refine handed_shaped (C:=Tryz.checked) (X:=fun w _=>laidMetH Tryz.prog Rows.runMoreRow.laid w) (fun _ _ _ hh h=>laidMetH.of_heap hh h) own started (by kernel_rfl) Tryz.func6
  (ChangeSpec.witness_at (enc:=enc) (C:=Tryz.checked) (os:=os) (X:=fun w _=>laidMetH Tryz.prog Rows.runMoreRow.laid w) false (laidWorld os) #[.agg #[.slice none 0 0,.int .i64 0,.string ⟨#[]⟩,.string ⟨#[]⟩,.slice none 0 0,.int .i64 0,.slice none 0 0,.slice none 0 0,.int .i64 0],.int .u8 0,.int .u8 0] 8 rfl (by kernel_rfl) (by kernel_rfl) (by kernel_rfl) (by kernel_rfl) (by kernel_rfl) (laidWorld_met os _)) ?_
 intro W base args ds gs before hval0 hW hsz hL hsh
 have hval:∀ (j:Nat) t v,Tryz.f6.params[j]? = some t→args[j]? = some v→Value.okWide Tryz.prog W .any base t v:=hval0
 have hW1:=hW
 obtain⟨p,q,hA0,hV,rfl,hfz,hnd⟩:=hW
 have hA:DataW.TrodAll enc Tryz.prog W 0 (fun _=>true) true Tryz.f6.params.toList args.toList ds p:=hA0
 rw [Tryz.params6] at hA hval
 obtain⟨v0,v1,v2,d0,d1,d2,p0,p1,p2,rfl,rfl,rfl,h0,h1,h2⟩:=trodAll_three hA
 obtain⟨rfl,rfl⟩:=trodVars_none hV
 obtain⟨w0,w1,w2⟩:=weights_three (t0:=30) (t1:=5) (t2:=5) hsz
 obtain⟨x0,r0⟩:=arg_pr (hval 0 30 v0 rfl rfl) h0 w0 noNames
 obtain⟨x1,r1,g1⟩:=arg_int Tryz.underlying5 (hval 1 5 v1 rfl rfl) h1 noNames
 obtain⟨x2,r2,g2⟩:=arg_int Tryz.underlying5 (hval 2 5 v2 rfl rfl) h2 noNames
 obtain⟨_,_,hfx⟩:=fixed_of_laid hL hsh
 refine (law_calls (vs:=[v0,v1,v2]) (law26_more x0 x1 g1 x2 g2) (.cons r0 (.cons r1 (.cons r2 .nil))) hfx).mono fun e W2 ⟨he,bel⟩=>?_
 subst he
 exact⟨_,rfl,_,_,_,[],_,[],hW1,trodAll_mk1 (shut_bool Tryz.underlying4 _),trodAll_mk3 (Below.trod laidOut (by kernel_rfl) (of_decide_eq_true (by kernel_rfl)) h0 bel (trod_block h0)) (Below.trod laidOut (by kernel_rfl) (of_decide_eq_true (by kernel_rfl)) h1 bel (trod_block h1)) (Below.trod laidOut (by kernel_rfl) (of_decide_eq_true (by kernel_rfl)) h2 bel (trod_block h2)),rfl,bel.frame _,fun h=>by cases h⟩
theorem k0:Tryz.pinned.checked.prog.funcNamed Rows.runMoreRow.func=some 6:=by kernel_rfl
theorem runMore_cinPlace:(Rows.runMoreRow.inPlace == Tryz.prog.inPlace 6)=true:=by kernel_rfl
theorem runMore_cunfollowed:(Rows.runMoreRow.unfollowed == Tryz.prog.unfollowed 6)=true:=by kernel_rfl
theorem runMore_crecurses:(Rows.runMoreRow.recurses == Tryz.prog.recurses 6)=true:=by kernel_rfl
theorem runMore_cnamed:(Rows.runMoreRow.named == Tryz.prog.varsNamed 6)=true:=by kernel_rfl
theorem k1:joinedFacts Tryz.prog 6 Tryz.f6 Rows.runMoreSpec Rows.runMoreRow=true:=by
 unfold joinedFacts
 rw [runMore_cinPlace,runMore_cunfollowed,runMore_crecurses,runMore_cnamed,laidOut,f_maps,f_heard,f_enter,f_lifts,f_make]
 kernel_rfl
theorem runMore_wfT:Rows.runMoreRow.wfByText (OpenSpec.ofChange Rows.runMoreSpec)=true:=by kernel_rfl
theorem runMore_looks:true=Tryz.prog.looks []:=by kernel_rfl
theorem runMore_goes:false=Rows.runMoreRow.goesBy Tryz.prog:=goes_row rfl
theorem k2:Tryz.f6.isInstance Tryz.pinned.checked.prog Rows.runMoreRow.origin Rows.runMoreRow.targs:=of_decide_eq_true (by kernel_rfl)
theorem k3:Tryz.f6.isWrapper Tryz.pinned.checked.prog Rows.runMoreRow.wrapper Rows.runMoreRow.mainSum:=by unfold Func.isWrapper;first | (rw [if_pos (by decide +kernel)];kernel_rfl) | (rw [if_neg (by decide +kernel)];exact⟨rfl,rfl⟩)
theorem k4:Rows.RunMoreSaid :=
 OpenClaim.holds_of_wide 6 Tryz.f6 rfl rfl rfl rfl rfl rfl rfl ⟨rfl,rfl,rfl,rfl,rfl⟩ rfl rfl rfl rfl rfl k0 Tryz.func6 k1
  k2 k3
  (fun os started H enc _=>lifted_runMore os started H enc)
theorem runMore_holds:Rows.RunMoreCardSaid :=
 Claim7.holds_tied_plain_at .later [] [.data,.data,.data,.data,.sentinel,.sentinel,.data,.pinned] true (true, "fd52a82262d69d45902dc0017a731524f6b19871380641de181f4e4c4b66a577") true
  k4 (fun _ h=>by cases h) runMore_wfT (fun _ h=>by cases h) runMore_row_tie rfl ⟨rfl,rfl⟩ (by kernel_rfl) rfl
  (fun f fn hf hfn=>by
   obtain rfl:f=6:=Option.some.inj ((show Tryz.prog.funcNamed "castings/castingslaw26.RunMore" = some 6 by kernel_rfl).symm.trans hf) |>.symm
   obtain rfl:fn=Tryz.f6:=(Option.some.inj (Tryz.func6.symm.trans hfn)).symm
   exact⟨runMore_looks,fun j t ht=>by
    rw [Tryz.params6] at ht
    have hm:t∈[30,5,5]:=List.mem_of_getElem? (i:=j) (by simpa using ht)
    simp only [List.mem_cons,List.not_mem_nil,or_false] at hm
    rcases hm with rfl | rfl | rfl
    ·exact (show Tryz.prog.wantsStandIn 30=false by kernel_rfl)
    ·exact (show Tryz.prog.wantsStandIn 5=false by kernel_rfl)
    ·exact (show Tryz.prog.wantsStandIn 5=false by kernel_rfl)⟩)
  runMore_goes
end Go.Proofs.YtbhbfpjnenekpaaGreatDoor
