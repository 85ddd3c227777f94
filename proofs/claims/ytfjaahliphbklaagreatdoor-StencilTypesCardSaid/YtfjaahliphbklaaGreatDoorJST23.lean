/- the declarations for each type of an instance set are those of the reference implementation, and stand in the program in order -/
import Derived.Test.YtfjaahliphbklaaGreatDoorJC23
import Derived.Test.YtfjaahliphbklaaGreatDoorJW30
namespace Go.Proofs.YtfjaahliphbklaaGreatDoor
set_option maxRecDepth 100000
set_option maxHeartbeats 1000000
open Go Go.ChangeShapes Go.WideShapes Go.ChangeAt Go.RowKit Go.Abs
set_option linter.unusedVariables false
theorem lifted_stencilTypes (os:Os)(started:os.Started)(H:Type)(enc:TypeId × Value→H) :
  ReturnsInHanded {} Tryz.checked os 4 .any (fun w args=>(Rows.stencilTypesSpec.pre enc Tryz.prog Tryz.f4 Rows.stencilTypesRow.domain false w args∧laidMetH Tryz.prog Rows.stencilTypesRow.laid w)∧sizedMet enc Tryz.prog Tryz.f4 (OpenSpec.ofChange Rows.stencilTypesSpec) false w args)
   (Rows.stencilTypesSpec.post enc Tryz.prog Tryz.f4 false true false false):=by
 refine B5i (C:=Tryz.checked) (X:=fun w _=>laidMetH Tryz.prog Rows.stencilTypesRow.laid w) (fun _ _ _ hh h=>laidMetH.of_heap hh h) own started (by kernel_rfl) Tryz.func4
  (ChangeSpec.witness_at (enc:=enc) (C:=Tryz.checked) (os:=os) (X:=fun w _=>laidMetH Tryz.prog Rows.stencilTypesRow.laid w) false (C3n os) #[.agg #[.slice none 0 0,.int .i64 0,.string ⟨#[]⟩,.string ⟨#[]⟩,.slice none 0 0,.int .i64 0,.slice none 0 0,.slice none 0 0,.int .i64 0]] 8 rfl (by kernel_rfl) (by kernel_rfl) (by kernel_rfl) (by kernel_rfl) (by kernel_rfl) (B6i os _)) ?_
 intro W base args ds gs before hval0 hW hsz hL hsh;have hval:∀ (j:Nat) t v,Tryz.f4.params[j]? = some t→args[j]? = some v→Value.okWide Tryz.prog W .any base t v:=hval0;have hW1:=hW;obtain⟨p,q,hA0,hV,rfl,hfz,hnd⟩:=hW;have hA:DataW.TrodAll enc Tryz.prog W 0 (fun _=>true) true Tryz.f4.params.toList args.toList ds p:=hA0;rw [Tryz.params4] at hA hval;obtain⟨v0,d0,rfl,rfl,h0⟩:=trodAll_one hA;obtain⟨rfl,rfl⟩:=trodVars_none hV;have w0:=C0m (t0:=30) hsz;obtain⟨x0,r0⟩:=F8a (hval 0 30 v0 rfl rfl) h0 w0 D8d;obtain⟨_,_,hfx⟩:=B5k hL hsh;refine (D0y (vs:=[v0]) (D8p x0) (.cons r0 .nil) hfx).mono fun e W2 ⟨he,bel⟩=>?_;subst he;exact⟨_,rfl,_,_,_,[],_,[],hW1,trodAll_mk1 (shut_bool Tryz.underlying4 _),trodAll_mk1 (Below.trod laidOut (by kernel_rfl) (of_decide_eq_true (by kernel_rfl)) h0 bel (C5m h0)),rfl,bel.frame _,fun h=>by cases h⟩
theorem k0:Tryz.pinned.checked.prog.funcNamed Rows.stencilTypesRow.func=some 4:=by kernel_rfl
theorem stencilTypes_cinPlace:(Rows.stencilTypesRow.inPlace == Tryz.prog.inPlace 4)=true:=by kernel_rfl
theorem stencilTypes_cunfollowed:(Rows.stencilTypesRow.unfollowed == Tryz.prog.unfollowed 4)=true:=by kernel_rfl
theorem stencilTypes_crecurses:(Rows.stencilTypesRow.recurses == Tryz.prog.recurses 4)=true:=by kernel_rfl
theorem stencilTypes_cnamed:(Rows.stencilTypesRow.named == Tryz.prog.varsNamed 4)=true:=by kernel_rfl
theorem k1:joinedFacts Tryz.prog 4 Tryz.f4 Rows.stencilTypesSpec Rows.stencilTypesRow=true:=by unfold joinedFacts;rw [stencilTypes_cinPlace,stencilTypes_cunfollowed,stencilTypes_crecurses,stencilTypes_cnamed,laidOut,F7z,F1n,F1o,E7s,F7h];kernel_rfl
theorem stencilTypes_wfT:Rows.stencilTypesRow.wfByText (OpenSpec.ofChange Rows.stencilTypesSpec)=true:=by kernel_rfl
theorem stencilTypes_looks:true=Tryz.prog.looks []:=by kernel_rfl
theorem stencilTypes_goes:false=Rows.stencilTypesRow.goesBy Tryz.prog:=E1a rfl
theorem k2:Tryz.f4.isInstance Tryz.pinned.checked.prog Rows.stencilTypesRow.origin Rows.stencilTypesRow.targs:=of_decide_eq_true (by kernel_rfl)
theorem k3:Tryz.f4.isWrapper Tryz.pinned.checked.prog Rows.stencilTypesRow.wrapper Rows.stencilTypesRow.mainSum:=by unfold Func.isWrapper;first | (rw [if_pos (by decide +kernel)];kernel_rfl) | (rw [if_neg (by decide +kernel)];exact⟨rfl,rfl⟩)
theorem k4:Rows.StencilTypesSaid :=
 OpenClaim.holds_of_wide 4 Tryz.f4 rfl rfl rfl rfl rfl rfl rfl ⟨rfl,rfl,rfl,rfl,rfl⟩ rfl rfl rfl rfl rfl k0 Tryz.func4 k1
  k2 k3
  (fun os started H enc _=>lifted_stencilTypes os started H enc)
theorem stencilTypes_holds:Rows.StencilTypesCardSaid :=
 Claim7.holds_tied_plain_at .later [] [.data,.data,.data,.data,.sentinel,.sentinel,.pinned] true (true, "cbff77e77fd94969d8478314ce7752227624b97f47f8740250b68007891885ab") true
  k4 (fun _ h=>by cases h) stencilTypes_wfT (fun _ h=>by cases h) stencilTypes_row_tie rfl ⟨rfl,rfl⟩ (by kernel_rfl) rfl
  (fun f fn hf hfn=>by
   obtain rfl:f=4:=Option.some.inj ((show Tryz.prog.funcNamed "castings/castingslaw23.StencilTypes" = some 4 by kernel_rfl).symm.trans hf) |>.symm
   obtain rfl:fn=Tryz.f4:=(Option.some.inj (Tryz.func4.symm.trans hfn)).symm;exact⟨stencilTypes_looks,fun j t ht=>by
    rw [Tryz.params4] at ht;have hm:t∈[30]:=List.mem_of_getElem? (i:=j) (by simpa using ht);simp only [List.mem_cons,List.not_mem_nil,or_false] at hm;rcases hm with rfl
    ·exact (show Tryz.prog.wantsStandIn 30=false by kernel_rfl)⟩)
  stencilTypes_goes
end Go.Proofs.YtfjaahliphbklaaGreatDoor
