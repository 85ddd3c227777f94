/- the program of the instance set of any program is plainly typed -/
import Derived.Test.YtoajimpjknbnoaaGreatDoorKC24
import Derived.Test.YtoajimpjknbnoaaGreatDoorKV15
set_option linter.all false
set_option maxHeartbeats 1000000
set_option maxRecDepth 100000
namespace Go.Proofs.YtoajimpjknbnoaaGreatDoor
open Go Go.ChangeShapes Go.WideShapes Go.ChangeAt Go.RowKit Go.iA
theorem z_h(os:Os)(E:os.Started)(H:Type)(enc:TypeId × Value->H) :ReturnsInHanded {} Tryz.checked os 3 .any (λw args=>(Rows.plainStencilsSpec.pre enc Tryz.prog Tryz.f3 Rows.plainStencilsRow.domain false w args/\laidMetH Tryz.prog Rows.plainStencilsRow.laid w)/\sizedMet enc Tryz.prog Tryz.f3 (OpenSpec.ofChange Rows.plainStencilsSpec) false w args) (Rows.plainStencilsSpec.post enc Tryz.prog Tryz.f3 false true false false):=by refine returnsInHanded_of_change_and (C:=Tryz.checked) (X:=λw _=>laidMetH Tryz.prog Rows.plainStencilsRow.laid w) (λ_ _ _ hh h=>laidMetH.of_heap hh h) own E (by kernel_rfl) Tryz.func3 (ChangeSpec.witness_at (enc:=enc) (C:=Tryz.checked) (os:=os) (X:=λw _=>laidMetH Tryz.prog Rows.plainStencilsRow.laid w) false (e8 os) #[.agg #[.slice none 0 0,.int .i64 0,.string ⟨#[]⟩,.string ⟨#[]⟩,.slice none 0 0,.int .i64 0,.slice none 0 0,.slice none 0 0,.int .i64 0]] 8 rfl (by kernel_rfl) (by kernel_rfl) (by kernel_rfl) (by kernel_rfl) (by kernel_rfl) (F6e os _)) ?_;intro W base args ds gs O J hW a1 U hL _;have I:∀(j:Nat) t v,Tryz.f3.params[j]?=some t->args[j]?=some v->Value.okWide Tryz.prog W .any base t v:=J;have V:=hW;obtain⟨p,q,a0,hV,rfl,a2,a3⟩:=hW;have hA:DataW.TrodAll enc Tryz.prog W 0 (λ_=>true) true Tryz.f3.params.toList args.toList ds p:=a0;rw[Tryz.params3]at hA I;obtain⟨v0,d0,rfl,rfl,h0⟩:=trodAll_one hA;obtain⟨rfl,rfl⟩:=trodVars_none hV;have w0:=F9n (t0:=30) U;obtain⟨x0,r0⟩:=F5k (I 0 30 v0 rfl rfl) h0 w0 jb;obtain⟨_,_,Z⟩:=H3e hL;refine(H1a (vs:=[v0]) (law24_stencils x0) (.cons r0 .nil) Z).mono λe W2 ⟨he,L⟩=>?_;subst he;exact⟨_,rfl,_,_,_,[],_,[],V,trodAll_mk1 (shut_bool Tryz.underlying4 _),trodAll_mk1 (Below.trod laidOut (by kernel_rfl) (of_decide_eq_true (by kernel_rfl)) h0 L (H1s h0)),rfl,L.frame _,λh=>by cases h⟩
theorem k0:Tryz.pinned.checked.prog.funcNamed Rows.plainStencilsRow.func=some 3:=by kernel_rfl
theorem z_a:(Rows.plainStencilsRow.inPlace ==Tryz.prog.inPlace 3)=true:=by kernel_rfl
theorem z_b:(Rows.plainStencilsRow.unfollowed ==Tryz.prog.unfollowed 3)=true:=by kernel_rfl
theorem z_c:(Rows.plainStencilsRow.recurses ==Tryz.prog.recurses 3)=true:=by kernel_rfl
theorem z_d:(Rows.plainStencilsRow.named ==Tryz.prog.varsNamed 3)=true:=by kernel_rfl
theorem k1:joinedFacts Tryz.prog 3 Tryz.f3 Rows.plainStencilsSpec Rows.plainStencilsRow=true:=by unfold joinedFacts;rw[z_a,z_b,z_c,z_d,laidOut,F8o,H8a,H6u,H2x,H7d];kernel_rfl
theorem z_e:Rows.plainStencilsRow.wfByText (OpenSpec.ofChange Rows.plainStencilsSpec)=true:=by kernel_rfl
theorem z_f:true=Tryz.prog.looks []:=by kernel_rfl
theorem z_g:false=Rows.plainStencilsRow.goesBy Tryz.prog:=H1b rfl
theorem k2:Tryz.f3.isInstance Tryz.pinned.checked.prog Rows.plainStencilsRow.origin Rows.plainStencilsRow.targs:=of_decide_eq_true (by kernel_rfl)
theorem k3:Tryz.f3.isWrapper Tryz.pinned.checked.prog Rows.plainStencilsRow.wrapper Rows.plainStencilsRow.mainSum:=by unfold Func.isWrapper;first| (rw[A7 (by decide +kernel)];kernel_rfl)| (rw[A5 (by decide +kernel)];exact⟨rfl,rfl⟩)
theorem k4:Rows.PlainStencilsSaid :=OpenClaim.holds_of_wide 3 Tryz.f3 rfl rfl rfl rfl rfl rfl rfl ⟨rfl,rfl,rfl,rfl,rfl⟩ rfl rfl rfl rfl rfl k0 Tryz.func3 k1 k2 k3 (λos E H enc _=>z_h os E H enc)
theorem plainStencils_holds:Rows.PlainStencilsCardSaid :=Claim7.holds_tied_plain_at .later [] [.data,.data,.data,.handle] true (true, "3d087baa80592866a46b82da170f095fafd3ce7a185da7b5c04eada892ce7562") true k4 (λ_ h=>by cases h) z_e (λ_ h=>by cases h) plainStencils_row_tie rfl ⟨rfl,rfl⟩ (by kernel_rfl) rfl (λf fn J E=>by
   obtain rfl:f=3:=Tf ((show Tryz.prog.funcNamed "castings/castingslaw24.PlainStencils" =some 3 by kernel_rfl).symm.trans J) |>.symm
   obtain rfl:fn=Tryz.f3:=(Tf (Tryz.func3.symm.trans E)).symm;exact⟨z_f,λj t ht=>by
    rw[Tryz.params3]at ht;have I:t∈[30]:=Bs (i:=j) (by simpa using ht);simp only[Ay,Eh,Eo]at I;rcases I with rfl
    .exact(show Tryz.prog.wantsStandIn 30=false by kernel_rfl)⟩) z_g
end Go.Proofs.YtoajimpjknbnoaaGreatDoor
