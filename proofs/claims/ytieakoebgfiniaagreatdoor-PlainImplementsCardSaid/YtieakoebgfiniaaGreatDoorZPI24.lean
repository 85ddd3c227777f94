/- types of the instance set of any program implement each other exactly if the types with their names do in the program of this set -/
import Derived.Test.YtieakoebgfiniaaGreatDoorZC24
import Derived.Test.YtieakoebgfiniaaGreatDoorZV16
set_option linter.all false
set_option maxHeartbeats 1000000
set_option maxRecDepth 100000
namespace Go.Proofs.YtieakoebgfiniaaGreatDoor
open Go Go.ChangeShapes Go.WideShapes Go.ChangeAt Go.RowKit Go.Abs
theorem F3b(os:Os)(I:os.Started)(H:Type)(enc:TypeId × Value->H) :
  ReturnsInHanded {} Tryz.checked os 4 .any (λw args=>(Rows.plainImplementsSpec.pre enc Tryz.prog Tryz.f4 Rows.plainImplementsRow.domain false w args/\laidMetH Tryz.prog Rows.plainImplementsRow.laid w)/\sizedMet enc Tryz.prog Tryz.f4 (OpenSpec.ofChange Rows.plainImplementsSpec) false w args)
   (Rows.plainImplementsSpec.post enc Tryz.prog Tryz.f4 false true false false):=by
 refine returnsInHanded_of_change_and (C:=Tryz.checked) (X:=λw _=>laidMetH Tryz.prog Rows.plainImplementsRow.laid w) (λ_ _ _ hh h=>laidMetH.of_heap hh h) own I (by kernel_rfl) Tryz.func4
  (ChangeSpec.witness_at (enc:=enc) (C:=Tryz.checked) (os:=os) (X:=λw _=>laidMetH Tryz.prog Rows.plainImplementsRow.laid w) false (C9w os) #[.agg #[.slice none 0 0,.int .i64 0,.string ⟨#[]⟩,.string ⟨#[]⟩,.slice none 0 0,.int .i64 0,.slice none 0 0,.slice none 0 0,.int .i64 0],.int .u8 0,.int .u8 0] 8 rfl (by kernel_rfl) (by kernel_rfl) (by kernel_rfl) (by kernel_rfl) (by kernel_rfl) (F8n os _)) ?_
 intro W base args ds gs O L hW a2 Z hL _;have E:∀(j:Nat) t v,Tryz.f4.params[j]?=some t->args[j]?=some v->Value.okWide Tryz.prog W .any base t v:=L;have V:=hW;obtain⟨p,q,a1,hV,rfl,a4,a3⟩:=hW;have hA:DataW.TrodAll enc Tryz.prog W 0 (λ_=>true) true Tryz.f4.params.toList args.toList ds p:=a1;rw[Tryz.params4]at hA E;obtain⟨v0,v1,v2,d0,d1,d2,p0,p1,p2,rfl,rfl,rfl,h0,h1,U⟩:=trodAll_three hA;obtain⟨rfl,rfl⟩:=trodVars_none hV;obtain⟨w0,w1,w2⟩:=F7h (t0:=30) (t1:=5) (t2:=5) Z;obtain⟨x0,r0⟩:=G0k (E 0 30 v0 rfl rfl) h0 w0 B9r;obtain⟨x1,r1,g1⟩:=D3u Tryz.underlying5 (E 1 5 v1 rfl rfl) h1 B9r;obtain⟨x2,r2,g2⟩:=D3u Tryz.underlying5 (E 2 5 v2 rfl rfl) U B9r;obtain⟨_,_,a0⟩:=F8i hL;refine(G9c (vs:=[v0,v1,v2]) (F3f x0 x1 g1 x2 g2) (.cons r0 (.cons r1 (.cons r2 .nil))) a0).mono λe W2 ⟨he,J⟩=>?_;subst he;exact⟨_,rfl,_,_,_,[],_,[],V,trodAll_mk1 (shut_bool Tryz.underlying4 _),trodAll_mk3 (Below.trod laidOut (by kernel_rfl) (of_decide_eq_true (by kernel_rfl)) h0 J (C5v h0)) (Below.trod laidOut (by kernel_rfl) (of_decide_eq_true (by kernel_rfl)) h1 J (C5v h1)) (Below.trod laidOut (by kernel_rfl) (of_decide_eq_true (by kernel_rfl)) U J (C5v U)),rfl,J.frame _,λh=>by cases h⟩
theorem k0:Tryz.pinned.checked.prog.funcNamed Rows.plainImplementsRow.func=some 4:=by kernel_rfl
theorem F5m:(Rows.plainImplementsRow.inPlace ==Tryz.prog.inPlace 4)=true:=by kernel_rfl
theorem G1z:(Rows.plainImplementsRow.unfollowed ==Tryz.prog.unfollowed 4)=true:=by kernel_rfl
theorem G0v:(Rows.plainImplementsRow.recurses ==Tryz.prog.recurses 4)=true:=by kernel_rfl
theorem F6u:(Rows.plainImplementsRow.named ==Tryz.prog.varsNamed 4)=true:=by kernel_rfl
theorem k1:joinedFacts Tryz.prog 4 Tryz.f4 Rows.plainImplementsSpec Rows.plainImplementsRow=true:=by unfold joinedFacts;rw[F5m,G1z,G0v,F6u,laidOut,H2i,F5d,F6a,G2r,F7t];kernel_rfl
theorem F2b:Rows.plainImplementsRow.wfByText (OpenSpec.ofChange Rows.plainImplementsSpec)=true:=by kernel_rfl
theorem F5g:true=Tryz.prog.looks []:=by kernel_rfl
theorem H4x:false=Rows.plainImplementsRow.goesBy Tryz.prog:=H3e rfl
theorem k2:Tryz.f4.isInstance Tryz.pinned.checked.prog Rows.plainImplementsRow.origin Rows.plainImplementsRow.targs:=of_decide_eq_true (by kernel_rfl)
theorem k3:Tryz.f4.isWrapper Tryz.pinned.checked.prog Rows.plainImplementsRow.wrapper Rows.plainImplementsRow.mainSum:=by unfold Func.isWrapper;first| (rw[A8 (by decide +kernel)];kernel_rfl)| (rw[A6 (by decide +kernel)];exact⟨rfl,rfl⟩)
theorem k4:Rows.PlainImplementsSaid :=
 OpenClaim.holds_of_wide 4 Tryz.f4 rfl rfl rfl rfl rfl rfl rfl ⟨rfl,rfl,rfl,rfl,rfl⟩ rfl rfl rfl rfl rfl k0 Tryz.func4 k1
  k2 k3
  (λos E H enc _=>F3b os E H enc)
theorem plainImplements_holds:Rows.PlainImplementsCardSaid :=
 Claim7.holds_tied_plain_at .later [] [.data,.data,.data,.handle] true (true, "901a7f24fcbeeeec759a04d1724f227301ac768545a40d432b36ab9ce8731bab") true
  k4 (λ_ h=>by cases h) F2b (λ_ h=>by cases h) plainImplements_row_tie rfl ⟨rfl,rfl⟩ (by kernel_rfl) rfl
  (λf fn J E=>by
   obtain rfl:f=4:=X9 ((show Tryz.prog.funcNamed "castings/castingslaw24.PlainImplements" =some 4 by kernel_rfl).symm.trans J) |>.symm
   obtain rfl:fn=Tryz.f4:=(X9 (Tryz.func4.symm.trans E)).symm;exact⟨F5g,λj t ht=>by
    rw[Tryz.params4]at ht;have I:t∈[30,5,5]:=C6 (i:=j) (by simpa using ht);simp only[B1,E5,Ea]at I;rcases I with rfl|rfl|rfl
    .exact(show Tryz.prog.wantsStandIn 30=false by kernel_rfl)
    .exact(show Tryz.prog.wantsStandIn 5=false by kernel_rfl)
    .exact(show Tryz.prog.wantsStandIn 5=false by kernel_rfl)⟩)
  H4x
end Go.Proofs.YtieakoebgfiniaaGreatDoor
