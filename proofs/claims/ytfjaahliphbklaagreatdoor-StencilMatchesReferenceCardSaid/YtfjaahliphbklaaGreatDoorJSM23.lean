/- the program of the instance set of any program is that of the reference implementation -/
import Derived.Test.YtfjaahliphbklaaGreatDoorJC23
import Derived.Test.YtfjaahliphbklaaGreatDoorJW30
namespace Go.Proofs.YtfjaahliphbklaaGreatDoor
set_option maxRecDepth 100000
set_option maxHeartbeats 1000000
open Go Go.ChangeShapes Go.WideShapes Go.ChangeAt Go.RowKit Go.Abs
set_option linter.unusedVariables false
theorem lifted_stencilMatchesReference (os:Os)(started:os.Started)(H:Type)(enc:TypeId × Value→H) :
  ReturnsInHanded {} Tryz.checked os 3 .any (fun w args=>(Rows.stencilMatchesReferenceSpec.pre enc Tryz.prog Tryz.f3 Rows.stencilMatchesReferenceRow.domain false w args∧laidMetH Tryz.prog Rows.stencilMatchesReferenceRow.laid w)∧sizedMet enc Tryz.prog Tryz.f3 (OpenSpec.ofChange Rows.stencilMatchesReferenceSpec) false w args)
   (Rows.stencilMatchesReferenceSpec.post enc Tryz.prog Tryz.f3 false true false false):=by
 refine B5i (C:=Tryz.checked) (X:=fun w _=>laidMetH Tryz.prog Rows.stencilMatchesReferenceRow.laid w) (fun _ _ _ hh h=>laidMetH.of_heap hh h) own started (by kernel_rfl) Tryz.func3
  (ChangeSpec.witness_at (enc:=enc) (C:=Tryz.checked) (os:=os) (X:=fun w _=>laidMetH Tryz.prog Rows.stencilMatchesReferenceRow.laid w) false (C3n os) #[.agg #[.slice none 0 0,.int .i64 0,.string ⟨#[]⟩,.string ⟨#[]⟩,.slice none 0 0,.int .i64 0,.slice none 0 0,.slice none 0 0,.int .i64 0]] 8 rfl (by kernel_rfl) (by kernel_rfl) (by kernel_rfl) (by kernel_rfl) (by kernel_rfl) (B6i os _)) ?_
 intro W base args ds gs before hval0 hW hsz hL hsh;have hval:∀ (j:Nat) t v,Tryz.f3.params[j]? = some t→args[j]? = some v→Value.okWide Tryz.prog W .any base t v:=hval0;have hW1:=hW;obtain⟨p,q,hA0,hV,rfl,hfz,hnd⟩:=hW;have hA:DataW.TrodAll enc Tryz.prog W 0 (fun _=>true) true Tryz.f3.params.toList args.toList ds p:=hA0;rw [Tryz.params3] at hA hval;obtain⟨v0,d0,rfl,rfl,h0⟩:=trodAll_one hA;obtain⟨rfl,rfl⟩:=trodVars_none hV;have w0:=C0m (t0:=30) hsz;obtain⟨x0,r0⟩:=F8a (hval 0 30 v0 rfl rfl) h0 w0 D8d;obtain⟨_,_,hfx⟩:=B5k hL hsh;refine (D0y (vs:=[v0]) (C9m x0) (.cons r0 .nil) hfx).mono fun e W2 ⟨he,bel⟩=>?_;subst he;exact⟨_,rfl,_,_,_,[],_,[],hW1,trodAll_mk1 (shut_bool Tryz.underlying4 _),trodAll_mk1 (Below.trod laidOut (by kernel_rfl) (of_decide_eq_true (by kernel_rfl)) h0 bel (C5m h0)),rfl,bel.frame _,fun h=>by cases h⟩
theorem k0:Tryz.pinned.checked.prog.funcNamed Rows.stencilMatchesReferenceRow.func=some 3:=by kernel_rfl
theorem stencilMatchesReference_cinPlace:(Rows.stencilMatchesReferenceRow.inPlace == Tryz.prog.inPlace 3)=true:=by kernel_rfl
theorem stencilMatchesReference_cunfollowed:(Rows.stencilMatchesReferenceRow.unfollowed == Tryz.prog.unfollowed 3)=true:=by kernel_rfl
theorem stencilMatchesReference_crecurses:(Rows.stencilMatchesReferenceRow.recurses == Tryz.prog.recurses 3)=true:=by kernel_rfl
theorem stencilMatchesReference_cnamed:(Rows.stencilMatchesReferenceRow.named == Tryz.prog.varsNamed 3)=true:=by kernel_rfl
theorem k1:joinedFacts Tryz.prog 3 Tryz.f3 Rows.stencilMatchesReferenceSpec Rows.stencilMatchesReferenceRow=true:=by unfold joinedFacts;rw [stencilMatchesReference_cinPlace,stencilMatchesReference_cunfollowed,stencilMatchesReference_crecurses,stencilMatchesReference_cnamed,laidOut,F7z,F1n,F1o,E7s,F7h];kernel_rfl
theorem stencilMatchesReference_wfT:Rows.stencilMatchesReferenceRow.wfByText (OpenSpec.ofChange Rows.stencilMatchesReferenceSpec)=true:=by kernel_rfl
theorem stencilMatchesReference_looks:true=Tryz.prog.looks []:=by kernel_rfl
theorem stencilMatchesReference_goes:false=Rows.stencilMatchesReferenceRow.goesBy Tryz.prog:=E1a rfl
theorem k2:Tryz.f3.isInstance Tryz.pinned.checked.prog Rows.stencilMatchesReferenceRow.origin Rows.stencilMatchesReferenceRow.targs:=of_decide_eq_true (by kernel_rfl)
theorem k3:Tryz.f3.isWrapper Tryz.pinned.checked.prog Rows.stencilMatchesReferenceRow.wrapper Rows.stencilMatchesReferenceRow.mainSum:=by unfold Func.isWrapper;first | (rw [if_pos (by decide +kernel)];kernel_rfl) | (rw [if_neg (by decide +kernel)];exact⟨rfl,rfl⟩)
theorem k4:Rows.StencilMatchesReferenceSaid :=
 OpenClaim.holds_of_wide 3 Tryz.f3 rfl rfl rfl rfl rfl rfl rfl ⟨rfl,rfl,rfl,rfl,rfl⟩ rfl rfl rfl rfl rfl k0 Tryz.func3 k1
  k2 k3
  (fun os started H enc _=>lifted_stencilMatchesReference os started H enc)
theorem stencilMatchesReference_holds:Rows.StencilMatchesReferenceCardSaid :=
 Claim7.holds_tied_plain_at .later [] [.data,.data,.data,.data,.sentinel,.sentinel,.pinned] true (true, "cbff77e77fd94969d8478314ce7752227624b97f47f8740250b68007891885ab") true
  k4 (fun _ h=>by cases h) stencilMatchesReference_wfT (fun _ h=>by cases h) stencilMatchesReference_row_tie rfl ⟨rfl,rfl⟩ (by kernel_rfl) rfl
  (fun f fn hf hfn=>by
   obtain rfl:f=3:=Option.some.inj ((show Tryz.prog.funcNamed "castings/castingslaw23.StencilMatchesReference" = some 3 by kernel_rfl).symm.trans hf) |>.symm
   obtain rfl:fn=Tryz.f3:=(Option.some.inj (Tryz.func3.symm.trans hfn)).symm;exact⟨stencilMatchesReference_looks,fun j t ht=>by
    rw [Tryz.params3] at ht;have hm:t∈[30]:=List.mem_of_getElem? (i:=j) (by simpa using ht);simp only [List.mem_cons,List.not_mem_nil,or_false] at hm;rcases hm with rfl
    ·exact (show Tryz.prog.wantsStandIn 30=false by kernel_rfl)⟩)
  stencilMatchesReference_goes
end Go.Proofs.YtfjaahliphbklaaGreatDoor
