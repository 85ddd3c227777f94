/- a program and the program of its instance set make the same steps, and come to the same end -/
import Derived.Test.YtjneockcgjfhaaaGreatDoorKC26
import Derived.Test.YtjneockcgjfhaaaGreatDoorKV17
set_option linter.all false
set_option maxHeartbeats 1000000
set_option maxRecDepth 100000
namespace Go.Proofs.YtjneockcgjfhaaaGreatDoor
open Go Go.ChangeShapes Go.WideShapes Go.ChangeAt Go.RowKit Go.Abs
theorem E8q(os:Os)(I:os.Started)(H:Type)(enc:TypeId × Value->H) :ReturnsInHanded {} Tryz.checked os 3 .any (λw args=>(Rows.runPairsSpec.pre enc Tryz.prog Tryz.f3 Rows.runPairsRow.domain false w args/\laidMetH Tryz.prog Rows.runPairsRow.laid w)/\sizedMet enc Tryz.prog Tryz.f3 (OpenSpec.ofChange Rows.runPairsSpec) false w args) (Rows.runPairsSpec.post enc Tryz.prog Tryz.f3 false true false false):=by refine F7w (C:=Tryz.checked) (X:=λw _=>laidMetH Tryz.prog Rows.runPairsRow.laid w) (λ_ _ _ hh h=>laidMetH.of_heap hh h) own I (by kernel_rfl) Tryz.func3 (ChangeSpec.witness_at (enc:=enc) (C:=Tryz.checked) (os:=os) (X:=λw _=>laidMetH Tryz.prog Rows.runPairsRow.laid w) false (D1y os) #[.agg #[.slice none 0 0,.int .i64 0,.string ⟨#[]⟩,.string ⟨#[]⟩,.slice none 0 0,.int .i64 0,.slice none 0 0,.slice none 0 0,.int .i64 0],.int .u8 0] 8 rfl (by kernel_rfl) (by kernel_rfl) (by kernel_rfl) (by kernel_rfl) (by kernel_rfl) (E9j os _)) ?_;intro W base args ds gs O J hW a0 hL a1;have E:∀(j:Nat) t v,Tryz.f3.params[j]?=some t->args[j]?=some v->Value.okWide Tryz.prog W .any base t v:=J;have a2:=hW;obtain⟨p,q,Z,hV,rfl,a3,a4⟩:=hW;have hA:DataW.TrodAll enc Tryz.prog W 0 (λ_=>true) true Tryz.f3.params.toList args.toList ds p:=Z;rw[Tryz.params3]at hA E;obtain⟨v0,v1,d0,d1,p0,p1,rfl,rfl,rfl,h0,V⟩:=trodAll_two hA;obtain⟨rfl,rfl⟩:=trodVars_none hV;obtain⟨w0,w1⟩:=G0q (t0:=30) (t1:=5) a0;obtain⟨x0,r0⟩:=E7s (E 0 30 v0 rfl rfl) h0 w0 C7g;obtain⟨x1,r1,g1⟩:=F6m Tryz.underlying5 (E 1 5 v1 rfl rfl) V C7g;obtain⟨_,_,U⟩:=G6n hL a1;refine(E7m (vs:=[v0,v1]) (G6s x0 x1 g1) (.cons r0 (.cons r1 .nil)) U).mono λe W2 ⟨he,L⟩=>?_;subst he;exact⟨_,rfl,_,_,_,[],_,[],a2,trodAll_mk1 (shut_bool Tryz.underlying4 _),trodAll_mk2 (Below.trod laidOut (by kernel_rfl) (of_decide_eq_true (by kernel_rfl)) h0 L (D5o h0)) (Below.trod laidOut (by kernel_rfl) (of_decide_eq_true (by kernel_rfl)) V L (D5o V)),rfl,L.frame _,λh=>by cases h⟩
theorem k0:Tryz.pinned.checked.prog.funcNamed Rows.runPairsRow.func=some 3:=by kernel_rfl
theorem G0s:(Rows.runPairsRow.inPlace ==Tryz.prog.inPlace 3)=true:=by kernel_rfl
theorem F0i:(Rows.runPairsRow.unfollowed ==Tryz.prog.unfollowed 3)=true:=by kernel_rfl
theorem G0r:(Rows.runPairsRow.recurses ==Tryz.prog.recurses 3)=true:=by kernel_rfl
theorem F0j:(Rows.runPairsRow.named ==Tryz.prog.varsNamed 3)=true:=by kernel_rfl
theorem k1:joinedFacts Tryz.prog 3 Tryz.f3 Rows.runPairsSpec Rows.runPairsRow=true:=by unfold joinedFacts;rw[G0s,F0i,G0r,F0j,laidOut,H0z,G7b,F1a,G6u,F9z];kernel_rfl
theorem G9a:Rows.runPairsRow.wfByText (OpenSpec.ofChange Rows.runPairsSpec)=true:=by kernel_rfl
theorem G4u:true=Tryz.prog.looks []:=by kernel_rfl
theorem F7r:false=Rows.runPairsRow.goesBy Tryz.prog:=G2u rfl
theorem k2:Tryz.f3.isInstance Tryz.pinned.checked.prog Rows.runPairsRow.origin Rows.runPairsRow.targs:=of_decide_eq_true (by kernel_rfl)
theorem k3:Tryz.f3.isWrapper Tryz.pinned.checked.prog Rows.runPairsRow.wrapper Rows.runPairsRow.mainSum:=by unfold Func.isWrapper;first| (rw[A6 (by decide +kernel)];kernel_rfl)| (rw[A3 (by decide +kernel)];exact⟨rfl,rfl⟩)
theorem k4:Rows.RunPairsSaid :=OpenClaim.holds_of_wide 3 Tryz.f3 rfl rfl rfl rfl rfl rfl rfl ⟨rfl,rfl,rfl,rfl,rfl⟩ rfl rfl rfl rfl rfl k0 Tryz.func3 k1
  k2 k3
  (λos E H enc _=>E8q os E H enc)
theorem runPairs_holds:Rows.RunPairsCardSaid :=Claim7.holds_tied_plain_at .later [] [.data,.data,.data,.data,.sentinel,.sentinel,.data,.pinned] true (true, "664fcae47e406d4b79c1466f969cf2d5f79bd8fa781513941995c3a267d8ad1f") true
  k4 (λ_ h=>by cases h) G9a (λ_ h=>by cases h) runPairs_row_tie rfl ⟨rfl,rfl⟩ (by kernel_rfl) rfl
  (λf fn J E=>by
   obtain rfl:f=3:=An6 ((show Tryz.prog.funcNamed "castings/castingslaw26.RunPairs" =some 3 by kernel_rfl).symm.trans J) |>.symm
   obtain rfl:fn=Tryz.f3:=(An6 (Tryz.func3.symm.trans E)).symm;exact⟨G4u,λj t ht=>by
    rw[Tryz.params3]at ht;have I:t∈[30,5]:=Bm (i:=j) (by simpa using ht);simp only[B5,Fb,Fg]at I;rcases I with rfl|rfl
    .exact(show Tryz.prog.wantsStandIn 30=false by kernel_rfl)
    .exact(show Tryz.prog.wantsStandIn 5=false by kernel_rfl)⟩)
  F7r
end Go.Proofs.YtjneockcgjfhaaaGreatDoor
