/- the signature for any call, and the dummy signatures, are those of the reference implementation -/
import Derived.Test.YtbhbfpjnenekpaaGreatDoorJC23
import Derived.Test.YtbhbfpjnenekpaaGreatDoorJW18
namespace Go.Proofs.YtbhbfpjnenekpaaGreatDoor
set_option maxRecDepth 100000
set_option maxHeartbeats 1000000
open Go Go.ChangeShapes Go.WideShapes Go.ChangeAt Go.RowKit Go.Abs
set_option linter.unusedVariables false
theorem lifted_stencilSigs (os:Os)(started:os.Started)(H:Type)(enc:TypeId × Value→H) :
  ReturnsInHanded {} Tryz.checked os 4 .any (fun w args=>(Rows.stencilSigsSpec.pre enc Tryz.prog Tryz.f4 Rows.stencilSigsRow.domain false w args∧laidMetH Tryz.prog Rows.stencilSigsRow.laid w)∧sizedMet enc Tryz.prog Tryz.f4 (OpenSpec.ofChange Rows.stencilSigsSpec) false w args)
   (Rows.stencilSigsSpec.post enc Tryz.prog Tryz.f4 false true false false):=by
 refine handed_shaped (C:=Tryz.checked) (X:=fun w _=>laidMetH Tryz.prog Rows.stencilSigsRow.laid w) (fun _ _ _ hh h=>laidMetH.of_heap hh h) own started (by kernel_rfl) Tryz.func4
  (ChangeSpec.witness_at (enc:=enc) (C:=Tryz.checked) (os:=os) (X:=fun w _=>laidMetH Tryz.prog Rows.stencilSigsRow.laid w) false (laidWorld os) #[.agg #[.slice none 0 0,.int .i64 0,.string ⟨#[]⟩,.string ⟨#[]⟩,.slice none 0 0,.int .i64 0,.slice none 0 0,.slice none 0 0,.int .i64 0],.agg #[.string ⟨#[]⟩,.slice none 0 0,.int .i64 0,.string ⟨#[]⟩,.slice none 0 0]] 8 rfl (by kernel_rfl) (by kernel_rfl) (by kernel_rfl) (by kernel_rfl) (by kernel_rfl) (laidWorld_met os _)) ?_
 intro W base args ds gs before hval0 hW hsz hL hsh
 have hval:∀ (j:Nat) t v,Tryz.f4.params[j]? = some t→args[j]? = some v→Value.okWide Tryz.prog W .any base t v:=hval0
 have hW1:=hW
 obtain⟨p,q,hA0,hV,rfl,hfz,hnd⟩:=hW
 have hA:DataW.TrodAll enc Tryz.prog W 0 (fun _=>true) true Tryz.f4.params.toList args.toList ds p:=hA0
 rw [Tryz.params4] at hA hval
 obtain⟨v0,v1,d0,d1,p0,p1,rfl,rfl,rfl,h0,h1⟩:=trodAll_two hA
 obtain⟨rfl,rfl⟩:=trodVars_none hV
 obtain⟨w0,w1⟩:=weights_two (t0:=30) (t1:=46) hsz
 obtain⟨x0,r0⟩:=arg_pr (hval 0 30 v0 rfl rfl) h0 w0 noNames
 obtain⟨x1,r1,g1⟩:=arg_ca (hval 1 46 v1 rfl rfl) h1 w1 noNames
 obtain⟨_,_,hfx⟩:=fixed_of_laid hL hsh
 refine (law_calls (vs:=[v0,v1]) (law23_sigs x0 x1 g1) (.cons r0 (.cons r1 .nil)) hfx).mono fun e W2 ⟨he,bel⟩=>?_
 subst he
 exact⟨_,rfl,_,_,_,[],_,[],hW1,trodAll_mk1 (shut_bool Tryz.underlying4 _),trodAll_mk2 (Below.trod laidOut (by kernel_rfl) (of_decide_eq_true (by kernel_rfl)) h0 bel (trod_block h0)) (Below.trod laidOut (by kernel_rfl) (of_decide_eq_true (by kernel_rfl)) h1 bel (trod_block h1)),rfl,bel.frame _,fun h=>by cases h⟩
theorem k0:Tryz.pinned.checked.prog.funcNamed Rows.stencilSigsRow.func=some 4:=by kernel_rfl
theorem stencilSigs_cinPlace:(Rows.stencilSigsRow.inPlace == Tryz.prog.inPlace 4)=true:=by kernel_rfl
theorem stencilSigs_cunfollowed:(Rows.stencilSigsRow.unfollowed == Tryz.prog.unfollowed 4)=true:=by kernel_rfl
theorem stencilSigs_crecurses:(Rows.stencilSigsRow.recurses == Tryz.prog.recurses 4)=true:=by kernel_rfl
theorem stencilSigs_cnamed:(Rows.stencilSigsRow.named == Tryz.prog.varsNamed 4)=true:=by kernel_rfl
theorem k1:joinedFacts Tryz.prog 4 Tryz.f4 Rows.stencilSigsSpec Rows.stencilSigsRow=true:=by
 unfold joinedFacts
 rw [stencilSigs_cinPlace,stencilSigs_cunfollowed,stencilSigs_crecurses,stencilSigs_cnamed,laidOut,f_maps,f_heard,f_enter,f_lifts,f_make]
 kernel_rfl
theorem stencilSigs_wfT:Rows.stencilSigsRow.wfByText (OpenSpec.ofChange Rows.stencilSigsSpec)=true:=by kernel_rfl
theorem stencilSigs_looks:true=Tryz.prog.looks []:=by kernel_rfl
theorem stencilSigs_goes:false=Rows.stencilSigsRow.goesBy Tryz.prog:=goes_row rfl
theorem k2:Tryz.f4.isInstance Tryz.pinned.checked.prog Rows.stencilSigsRow.origin Rows.stencilSigsRow.targs:=of_decide_eq_true (by kernel_rfl)
theorem k3:Tryz.f4.isWrapper Tryz.pinned.checked.prog Rows.stencilSigsRow.wrapper Rows.stencilSigsRow.mainSum:=by unfold Func.isWrapper;first | (rw [if_pos (by decide +kernel)];kernel_rfl) | (rw [if_neg (by decide +kernel)];exact⟨rfl,rfl⟩)
theorem k4:Rows.StencilSigsSaid :=
 OpenClaim.holds_of_wide 4 Tryz.f4 rfl rfl rfl rfl rfl rfl rfl ⟨rfl,rfl,rfl,rfl,rfl⟩ rfl rfl rfl rfl rfl k0 Tryz.func4 k1
  k2 k3
  (fun os started H enc _=>lifted_stencilSigs os started H enc)
theorem stencilSigs_holds:Rows.StencilSigsCardSaid :=
 Claim7.holds_tied_plain_at .later [] [.data,.data,.data,.data,.sentinel,.sentinel,.pinned] true (true, "fd52a82262d69d45902dc0017a731524f6b19871380641de181f4e4c4b66a577") true
  k4 (fun _ h=>by cases h) stencilSigs_wfT (fun _ h=>by cases h) stencilSigs_row_tie rfl ⟨rfl,rfl⟩ (by kernel_rfl) rfl
  (fun f fn hf hfn=>by
   obtain rfl:f=4:=Option.some.inj ((show Tryz.prog.funcNamed "castings/castingslaw23.StencilSigs" = some 4 by kernel_rfl).symm.trans hf) |>.symm
   obtain rfl:fn=Tryz.f4:=(Option.some.inj (Tryz.func4.symm.trans hfn)).symm
   exact⟨stencilSigs_looks,fun j t ht=>by
    rw [Tryz.params4] at ht
    have hm:t∈[30,46]:=List.mem_of_getElem? (i:=j) (by simpa using ht)
    simp only [List.mem_cons,List.not_mem_nil,or_false] at hm
    rcases hm with rfl | rfl
    ·exact (show Tryz.prog.wantsStandIn 30=false by kernel_rfl)
    ·exact (show Tryz.prog.wantsStandIn 46=false by kernel_rfl)⟩)
  stencilSigs_goes
end Go.Proofs.YtbhbfpjnenekpaaGreatDoor
