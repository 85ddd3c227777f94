/- any program: the plain version of its report is as the reference says -/
import Derived.Test.YtlpkdlopdccmmaaGreatDoorYC24
import Derived.Test.YtlpkdlopdccmmaaGreatDoorYV13
namespace Go.Proofs.YtlpkdlopdccmmaaGreatDoor
set_option maxRecDepth 100000
set_option maxHeartbeats 1000000
open Go Go.ChangeShapes Go.WideShapes Go.ChangeAt Go.RowKit Go.Abs
set_option linter.unusedVariables false
theorem lifted_plainMatchesReference (os:Os)(started:os.Started)(H:Type)(enc:TypeId × Value→H) :
  ReturnsInHanded {} Tryz.checked os 3 .any (fun w args=>(Rows.plainMatchesReferenceSpec.pre enc Tryz.prog Tryz.f3 Rows.plainMatchesReferenceRow.domain false w args∧laidMetH Tryz.prog Rows.plainMatchesReferenceRow.laid w)∧sizedMet enc Tryz.prog Tryz.f3 (OpenSpec.ofChange Rows.plainMatchesReferenceSpec) false w args)
   (Rows.plainMatchesReferenceSpec.post enc Tryz.prog Tryz.f3 false true false false):=by
 refine returnsInHanded_of_change_and (C:=Tryz.checked) (X:=fun w _=>laidMetH Tryz.prog Rows.plainMatchesReferenceRow.laid w) (fun _ _ _ hh h=>laidMetH.of_heap hh h) own started (by kernel_rfl) Tryz.func3
  (ChangeSpec.witness_at (enc:=enc) (C:=Tryz.checked) (os:=os) (X:=fun w _=>laidMetH Tryz.prog Rows.plainMatchesReferenceRow.laid w) false (laidWorld os) #[.agg #[.slice none 0 0,.int .i64 0,.string ⟨#[]⟩,.string ⟨#[]⟩,.slice none 0 0,.int .i64 0,.slice none 0 0,.slice none 0 0,.int .i64 0]] 8 rfl (by kernel_rfl) (by kernel_rfl) (by kernel_rfl) (by kernel_rfl) (by kernel_rfl) (laidWorld_met os _)) ?_
 intro W base args ds gs before hval0 hW hcnd hsz hL _
 have hval:∀ (j:Nat) t v,Tryz.f3.params[j]? = some t→args[j]? = some v→Value.okWide Tryz.prog W .any base t v:=hval0
 have hW1:=hW
 obtain⟨p,q,hA0,hV,rfl,hfz,hnd⟩:=hW
 have hA:DataW.TrodAll enc Tryz.prog W 0 (fun _=>true) true Tryz.f3.params.toList args.toList ds p:=hA0
 rw [Tryz.params3] at hA hval
 obtain⟨v0,d0,rfl,rfl,h0⟩:=trodAll_one hA
 obtain⟨rfl,rfl⟩:=trodVars_none hV
 have w0:=weights_one (t0:=30) hsz
 obtain⟨x0,r0⟩:=arg_pr (hval 0 30 v0 rfl rfl) h0 w0 noNames
 obtain⟨_,_,hfx⟩:=fixed_of_laid hL
 refine (law_calls (vs:=[v0]) (law24_matches x0) (.cons r0 .nil) hfx).mono fun e W2 ⟨he,bel⟩=>?_
 subst he
 exact⟨_,rfl,_,_,_,[],_,[],hW1,trodAll_mk1 (shut_bool Tryz.underlying4 _),trodAll_mk1 (Below.trod laidOut (by kernel_rfl) (of_decide_eq_true (by kernel_rfl)) h0 bel (trod_block h0)),rfl,bel.frame _,fun h=>by cases h⟩
theorem k0:Tryz.pinned.checked.prog.funcNamed Rows.plainMatchesReferenceRow.func=some 3:=by kernel_rfl
theorem plainMatchesReference_cinPlace:(Rows.plainMatchesReferenceRow.inPlace == Tryz.prog.inPlace 3)=true:=by kernel_rfl
theorem plainMatchesReference_cunfollowed:(Rows.plainMatchesReferenceRow.unfollowed == Tryz.prog.unfollowed 3)=true:=by kernel_rfl
theorem plainMatchesReference_crecurses:(Rows.plainMatchesReferenceRow.recurses == Tryz.prog.recurses 3)=true:=by kernel_rfl
theorem plainMatchesReference_cnamed:(Rows.plainMatchesReferenceRow.named == Tryz.prog.varsNamed 3)=true:=by kernel_rfl
theorem k1:joinedFacts Tryz.prog 3 Tryz.f3 Rows.plainMatchesReferenceSpec Rows.plainMatchesReferenceRow=true:=by
 unfold joinedFacts
 rw [plainMatchesReference_cinPlace,plainMatchesReference_cunfollowed,plainMatchesReference_crecurses,plainMatchesReference_cnamed,laidOut,f_maps,f_heard,f_enter,f_lifts,f_make]
 kernel_rfl
theorem plainMatchesReference_wfT:Rows.plainMatchesReferenceRow.wfByText (OpenSpec.ofChange Rows.plainMatchesReferenceSpec)=true:=by kernel_rfl
theorem plainMatchesReference_looks:true=Tryz.prog.looks []:=by kernel_rfl
theorem plainMatchesReference_goes:false=Rows.plainMatchesReferenceRow.goesBy Tryz.prog:=goes_row rfl
theorem k2:Tryz.f3.isInstance Tryz.pinned.checked.prog Rows.plainMatchesReferenceRow.origin Rows.plainMatchesReferenceRow.targs:=of_decide_eq_true (by kernel_rfl)
theorem k3:Tryz.f3.isWrapper Tryz.pinned.checked.prog Rows.plainMatchesReferenceRow.wrapper Rows.plainMatchesReferenceRow.mainSum:=by unfold Func.isWrapper;first | (rw [if_pos (by decide +kernel)];kernel_rfl) | (rw [if_neg (by decide +kernel)];exact⟨rfl,rfl⟩)
theorem k4:Rows.PlainMatchesReferenceSaid :=
 OpenClaim.holds_of_wide 3 Tryz.f3 rfl rfl rfl rfl rfl rfl rfl ⟨rfl,rfl,rfl,rfl,rfl⟩ rfl rfl rfl rfl rfl k0 Tryz.func3 k1
  k2 k3
  (fun os started H enc _=>lifted_plainMatchesReference os started H enc)
theorem plainMatchesReference_holds:Rows.PlainMatchesReferenceCardSaid :=
 Claim7.holds_tied_plain_at .later [] [.data,.data,.data,.handle] true (true, "3a31949aec472700bc75d8d7846e06faf5953410de2842ff7f2c87e7c9f3c9f0") true
  k4 (fun _ h=>by cases h) plainMatchesReference_wfT (fun _ h=>by cases h) plainMatchesReference_row_tie rfl ⟨rfl,rfl⟩ (by kernel_rfl) rfl
  (fun f fn hf hfn=>by
   obtain rfl:f=3:=Option.some.inj ((show Tryz.prog.funcNamed "castings/castingslaw24.PlainMatchesReference" = some 3 by kernel_rfl).symm.trans hf) |>.symm
   obtain rfl:fn=Tryz.f3:=(Option.some.inj (Tryz.func3.symm.trans hfn)).symm
   exact⟨plainMatchesReference_looks,fun j t ht=>by
    rw [Tryz.params3] at ht
    have hm:t∈[30]:=List.mem_of_getElem? (i:=j) (by simpa using ht)
    simp only [List.mem_cons,List.not_mem_nil,or_false] at hm
    rcases hm with rfl
    ·exact (show Tryz.prog.wantsStandIn 30=false by kernel_rfl)⟩)
  plainMatchesReference_goes
end Go.Proofs.YtlpkdlopdccmmaaGreatDoor
