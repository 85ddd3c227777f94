/- the program of the instance set of any program is right, has no type parameters, and declares all its types -/
import Derived.Test.YtaneedhchnaniaaGreatDoorKC23
import Derived.Test.YtaneedhchnaniaaGreatDoorKW31
namespace Go.Proofs.YtaneedhchnaniaaGreatDoor
set_option maxRecDepth 100000
set_option maxHeartbeats 1000000
open Go Go.ChangeShapes Go.WideShapes Go.ChangeAt Go.RowKit Go.Abs
set_option linter.unusedVariables false
theorem lifted_stencilPlain (os:Os)(E:os.Started)(H:Type)(enc:TypeId × Value→H) :
  ReturnsInHanded {} Tryz.checked os 4 .any (fun w args=>(Rows.stencilPlainSpec.pre enc Tryz.prog Tryz.f4 Rows.stencilPlainRow.domain false w args∧laidMetH Tryz.prog Rows.stencilPlainRow.laid w)∧sizedMet enc Tryz.prog Tryz.f4 (OpenSpec.ofChange Rows.stencilPlainSpec) false w args)
   (Rows.stencilPlainSpec.post enc Tryz.prog Tryz.f4 false true false false):=by
 refine F7h (C:=Tryz.checked) (X:=fun w _=>laidMetH Tryz.prog Rows.stencilPlainRow.laid w) (fun _ _ _ hh h=>laidMetH.of_heap hh h) own E (by kernel_rfl) Tryz.func4
  (ChangeSpec.witness_at (enc:=enc) (C:=Tryz.checked) (os:=os) (X:=fun w _=>laidMetH Tryz.prog Rows.stencilPlainRow.laid w) false (C9c os) #[.agg #[.slice none 0 0,.int .i64 0,.string ⟨#[]⟩,.string ⟨#[]⟩,.slice none 0 0,.int .i64 0,.slice none 0 0,.slice none 0 0,.int .i64 0]] 8 rfl (by kernel_rfl) (by kernel_rfl) (by kernel_rfl) (by kernel_rfl) (by kernel_rfl) (F9f os _)) ?_
 intro W base args ds gs O J hW U hL R;have I:∀(j:Nat) t v,Tryz.f4.params[j]? = some t→args[j]? = some v→Value.okWide Tryz.prog W .any base t v:=J;have a0:=hW;obtain⟨p,q,a1,hV,rfl,a3,a2⟩:=hW;have hA:DataW.TrodAll enc Tryz.prog W 0 (fun _=>true) true Tryz.f4.params.toList args.toList ds p:=a1;rw [Tryz.params4] at hA I;obtain⟨v0,d0,rfl,rfl,V⟩:=trodAll_one hA;obtain⟨rfl,rfl⟩:=trodVars_none hV;have w0:=F7r (t0:=43) U;obtain⟨x0,r0⟩:=F5p (I 0 43 v0 rfl rfl) V w0 E3h;obtain⟨_,_,Z⟩:=E4h hL R;refine (E8x (vs:=[v0]) (F7p x0) (.cons r0 .nil) Z).mono fun e W2 ⟨he,L⟩=>?_;subst he;exact⟨_,rfl,_,_,_,[],_,[],a0,trodAll_mk1 (shut_bool Tryz.underlying4 _),trodAll_mk1 (Below.trod laidOut (by kernel_rfl) (of_decide_eq_true (by kernel_rfl)) V L (E9k V)),rfl,L.frame _,fun h=>by cases h⟩
theorem k0:Tryz.pinned.checked.prog.funcNamed Rows.stencilPlainRow.func=some 4:=by kernel_rfl
theorem stencilPlain_cinPlace:(Rows.stencilPlainRow.inPlace == Tryz.prog.inPlace 4)=true:=by kernel_rfl
theorem stencilPlain_cunfollowed:(Rows.stencilPlainRow.unfollowed == Tryz.prog.unfollowed 4)=true:=by kernel_rfl
theorem stencilPlain_crecurses:(Rows.stencilPlainRow.recurses == Tryz.prog.recurses 4)=true:=by kernel_rfl
theorem stencilPlain_cnamed:(Rows.stencilPlainRow.named == Tryz.prog.varsNamed 4)=true:=by kernel_rfl
theorem k1:joinedFacts Tryz.prog 4 Tryz.f4 Rows.stencilPlainSpec Rows.stencilPlainRow=true:=by unfold joinedFacts;rw [stencilPlain_cinPlace,stencilPlain_cunfollowed,stencilPlain_crecurses,stencilPlain_cnamed,laidOut,G4s,F2x,F3c,F0c,G4u];kernel_rfl
theorem stencilPlain_wfT:Rows.stencilPlainRow.wfByText (OpenSpec.ofChange Rows.stencilPlainSpec)=true:=by kernel_rfl
theorem stencilPlain_looks:true=Tryz.prog.looks []:=by kernel_rfl
theorem stencilPlain_goes:false=Rows.stencilPlainRow.goesBy Tryz.prog:=G1r rfl
theorem k2:Tryz.f4.isInstance Tryz.pinned.checked.prog Rows.stencilPlainRow.origin Rows.stencilPlainRow.targs:=of_decide_eq_true (by kernel_rfl)
theorem k3:Tryz.f4.isWrapper Tryz.pinned.checked.prog Rows.stencilPlainRow.wrapper Rows.stencilPlainRow.mainSum:=by unfold Func.isWrapper;first| (rw [A8 (by decide +kernel)];kernel_rfl)| (rw [A6 (by decide +kernel)];exact⟨rfl,rfl⟩)
theorem k4:Rows.StencilPlainSaid :=
 OpenClaim.holds_of_wide 4 Tryz.f4 rfl rfl rfl rfl rfl rfl rfl ⟨rfl,rfl,rfl,rfl,rfl⟩ rfl rfl rfl rfl rfl k0 Tryz.func4 k1
  k2 k3
  (fun os E H enc _=>lifted_stencilPlain os E H enc)
theorem stencilPlain_holds:Rows.StencilPlainCardSaid :=
 Claim7.holds_tied_plain_at .later [] [.data,.data,.data,.data,.sentinel,.sentinel,.pinned] true (true, "be367d02c046b94b2cf6d35702f3be1dccccb1f0284e8841e6240efdd45d8e4a") true
  k4 (fun _ h=>by cases h) stencilPlain_wfT (fun _ h=>by cases h) stencilPlain_row_tie rfl ⟨rfl,rfl⟩ (by kernel_rfl) rfl
  (fun f fn J E=>by
   obtain rfl:f=4:=As5 ((show Tryz.prog.funcNamed "castings/castingslaw23.StencilPlain" = some 4 by kernel_rfl).symm.trans J) |>.symm
   obtain rfl:fn=Tryz.f4:=(As5 (Tryz.func4.symm.trans E)).symm;exact⟨stencilPlain_looks,fun j t ht=>by
    rw [Tryz.params4] at ht;have I:t∈[43]:=Bx (i:=j) (by simpa using ht);simp only [As,Dt,Du] at I;rcases I with rfl
    ·exact (show Tryz.prog.wantsStandIn 43=false by kernel_rfl)⟩)
  stencilPlain_goes
end Go.Proofs.YtaneedhchnaniaaGreatDoor
