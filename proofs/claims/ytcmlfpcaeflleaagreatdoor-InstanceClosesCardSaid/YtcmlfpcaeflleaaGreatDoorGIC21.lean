/- all types that the types and calls of an instance set need are in it, too -/
import Derived.Test.YtcmlfpcaeflleaaGreatDoorGCG21
import Derived.Test.YtcmlfpcaeflleaaGreatDoorGYY
set_option linter.all false
set_option maxHeartbeats 4000000
set_option maxRecDepth 100000
namespace Go.Abs
open Go Go.Proofs Go.Sort Tryz
abbrev B1s(ts:List Ty)(cs:List Ad):List D:=[.slice (Au ts),.slice (C7 cs)]
end Go.Abs
namespace Go.Abs
open Go
section
variable {p:Prog} (hs:p.Sm) (ht:∀d,d∈p.decls->d.Tl) (hr:p.right=true)
include hs ht hr
end
theorem B2u{p:Prog}(J:p.Fit)(ht:∀d,d∈p.decls->d.Tl)(hr:p.right=true)(h:(Cp p).2=true):(Cp p).1.Fd:=by have M:=A7h _ _ _ h;obtain⟨U,O,L⟩:=B9d M;have I:=C2o J.sm ht hr;refine⟨A5w J,λt ht=>⟨I.types t ht,by have:=O t ht;omega⟩,λc E=>⟨λt ht=>⟨I.calls c E t ht,?_⟩,L c E⟩,U⟩;have:=L c E;have:=A5u ht;omega
end Go.Abs
namespace Go.Abs
open Go Go.Proofs Tryz
abbrev A5e:List Nat:=[0,1,2,3,4,12,905]
theorem B1i(ts:List Ty)(cs:List Ad)(M:cs.length<=sm):Ac Tryz.prog 14 [Ur ts cs] (I1 ⟨ts,cs,false⟩):=by
 refine cB func14 ?_;refine sR A5e ?_;refine sR A5e ?_;refine A0.U7 905 5 3 1 rfl rfl (by decide)<|kR A5e λO u1=>?_;refine A0.bb (A0.ii cs (X:=Unit) (λj _=>[(1,.box 1 0),(2,.box 2 0),(3,.box 3 0),(4,A8 j)])
  (λj _=>[(1,.cells [.d (.slice (Au ts)),.d (.slice (C7 cs))]),(2,.cells [.d .nil,.d .nil,.d (.bool false)]),(3,.cells [.d (.slice (Au ts)),.acc 905,.d (.bool false)]),(905,.rows 5 (C7 (cs.take j)))])
  (λ_ _=>True) () trivial sS (by simp[ble,A7,C7]) ?_ ?_)
 rotate_left
 .intro j _ c L J dp U I _;have W:=(B5.1 L).1;have V:C7 (cs.take (j+1))=C7 (cs.take j)++[Du c]:=by rw[U];simp[C7]
  have Z:(C7 (cs.take j)).length=j:=by rw[Er,Dx];omega
  rw[V];generalize C7 (cs.take j)=PR at*;refine sK λE u2=>?_
  (refine sQ A5e λK z=>?_;simp -implicitDefEqProofs only[EV,Nat.reduceEqDiff,reduceCtorEq,P9,Rn,I,Er];apply z;clear z K)
  refine gI u2 ?_;clear u2 E;refine sK λE u2=>A0.bb ?_
  (refine lG A5e [] 8 [] λK z=>?_;refine ev ?_;refine⟨by omega,_,I0 L,rfl,?_⟩;(try simp -implicitDefEqProofs only[EV,Nat.reduceAdd,Nat.reduceEqDiff,Nat.reduceBEq,Nat.reduceLeDiff,Nat.reduceMul,reduceCtorEq,Gb,Hr,Nb,Du]);refine⟨by simp,by unfold lim sm at*;omega,?_⟩;apply z;clear z K;try simp only[A4,Ab])
  refine u2 _ _ ?_;clear u2 E;refine lT A5e ?_;exact⟨(),trivial,sS,by simp[ble,A7,Du]⟩
 intro _ _;rw[Dm];refine sK λE u2=>?_
 (refine sQ A5e λK z=>?_;simp -implicitDefEqProofs only[EV,Nat.reduceEqDiff,reduceCtorEq,P9,Rn,B3,Er];apply z;clear z K)
 refine A0.ss rfl ?_;simp only[A4,Ab,Ae];refine u1 _ _ ?_;clear u2 E u1 O
 (refine A0.Jq 905 rfl (wk [(1,.box 1 0),(2,.box 2 0),(3,.box 3 0)] [(1,.cells [.d (.slice (Au ts)),.d (.slice (C7 cs))]),(2,.cells [.d .nil,.d .nil,.d (.bool false)]),(3,.cells [.d (.slice (Au ts)),.d (.slice (C7 cs)),.d (.bool false)])] ?_))
 refine sR A5e ?_;exact aR
abbrev Tx:List Nat:=[0,1,2,3,4,5,6,22,27,41,46,60]
theorem A8i(a b:Aj)(U:a.Sm)(h:A9j a b):Ac Tryz.prog 13 [I1 a,I1 b] (Ay true):=by
 have a0:=U.types.1;have Z:=U.calls.1;have W:(a.types.length:Int)=b.types.length:=by rw[h.tl]
 have V:(a.calls.length:Int)=b.calls.length:=by rw[h.cl]
 refine cB func13 ?_;refine sR Tx<|sK λM u1=>?_
 (refine sQ Tx λK z=>?_;simp -implicitDefEqProofs only[EV,Nat.reduceEqDiff,reduceCtorEq,Lq,Gb,Hr,W,V,Er,];apply z;clear z K)
 refine kI u1 ?_;clear u1 M;refine kR Tx λM u1=>?_;refine A0.bb (A0.ii a.types (X:=Unit) (λj _=>[(2,.box 2 0),(3,.box 3 0),(5,A8 j)]) (λ_ _=>[(2,.cells (Fx a)),(3,.cells (Fx b))])
  (λ_ _=>True) () trivial sS sB ?_ ?_)
 rotate_left
 .intro j _ t ht J dp tk L _;have I:j<b.types.length:=by rw[<-h.tl];exact(B5.1 ht).1
  have O:=B8 I;have hs:=C2v t b.types[j] (U.types.2 t J);rw[h.t j t _ ht O]at hs;generalize b.types[j]=u at*;refine Ai L Tx λE u2=>?_;refine gI u2 ?_;clear u2 E;refine sK λE u2=>A0.bb ?_
  (refine sG Tx [] 10 [] λK z=>?_;refine ev ?_;refine ci (Dv ht) ?_;refine ci (Dv O) ?_;refine cc hs ?_;apply z;clear z K)
  refine A0.ff rfl (A0.kk (u2 _ _ ?_));clear u2 E;refine lT Tx ?_;exact⟨(),trivial,sS,by simp[ble,A7]⟩
 intro _ _;refine Ai B3 Tx λE u2=>?_;refine A0.ss rfl ?_;simp only[A4,Ab,Ae];refine u1 _ _ ?_;clear u2 E u1 M;refine kR Tx λM u1=>?_;refine A0.bb (A0.ii a.calls (X:=Unit) (λj _=>[(2,.box 2 0),(3,.box 3 0),(6,A8 j)]) (λ_ _=>[(2,.cells (Fx a)),(3,.cells (Fx b))])
  (λ_ _=>True) () trivial sS sB ?_ ?_)
 rotate_left
 .intro j _ t ht J dp tk L _;have I:j<b.calls.length:=by rw[<-h.cl];exact(B5.1 ht).1
  have O:=B8 I;have hs:=B2o t (U.calls.2 t J) b.calls[j];rw[h.c j t _ ht O]at hs;generalize b.calls[j]=u at*;refine sK λE u2=>?_
  (refine sQ Tx λK z=>?_;simp -implicitDefEqProofs only[EV,Nat.reduceEqDiff,reduceCtorEq,Gb,Hr,L,Er];apply z;clear z K)
  refine gI u2 ?_;clear u2 E;refine sK λE u2=>A0.bb ?_
  (refine sG Tx [] 10 [] λK z=>?_;refine ev ?_;refine⟨by omega,_,I0 ht,rfl,?_⟩;(try simp -implicitDefEqProofs only[EV,Nat.reduceAdd,Nat.reduceEqDiff,reduceCtorEq,Gb,Hr,Nb,Du]);refine⟨by omega,_,I0 O,rfl,?_⟩;(try simp -implicitDefEqProofs only[EV,Nat.reduceAdd,Nat.reduceEqDiff,reduceCtorEq,Du]);refine cc hs ?_;apply z;clear z K)
  refine A0.ff rfl (A0.kk (u2 _ _ ?_));clear u2 E;refine lT Tx ?_;exact⟨(),trivial,sS,by simp[ble,A7]⟩
 intro _ _;refine sK λE u2=>?_
 (refine sQ Tx λK z=>?_;simp -implicitDefEqProofs only[EV,Nat.reduceEqDiff,reduceCtorEq,Gb,Hr,B3,Er];apply z;clear z K)
 refine A0.ss rfl ?_;simp only[A4,Ab,Ae];refine u1 _ _ ?_;clear u2 E u1 M;refine sR Tx ?_;exact aR
end Go.Abs
namespace Go.Proofs.YtcmlfpcaeflleaaGreatDoor
open Go Go.ChangeShapes Go.WideShapes Go.ChangeAt Go.RowKit Go.Abs
theorem C5e{H:Type}{P:Program}{t0:TypeId}{ts:List TypeId}{d0:DataW H}{E:List (DataW H)}(h:(DataW.weightsEach P ([t0]++ts) ([d0]++E)).all (·<=reachBytes)=true):∀k,k∈d0.weights P t0->k<=reachBytes:=by simp only[Qp,Vt,DataW.weightsEach,Ar9,Bc,Dr,Da]at h;exact h.1
end Go.Proofs.YtcmlfpcaeflleaaGreatDoor
namespace Go.Abs
open Go Go.Proofs Tryz
abbrev H7:List Nat:=[0,1,2,3,4,5,6,7,8,9,10,11,18,26,33,38,48,55,65,70,81]
theorem F0h(p:Prog):Ac Tryz.prog 7 [D7 p] (Ay true):=by
 have O:=B6v;have hg:=B5v p;cases gb:Yz p with
 |false =>
  rw[gb,A6 (by simp)]at hg;refine cB func7 ?_;refine sR H7<|sK λJ u1=>?_
  (refine sV H7 λK z=>?_;refine cc O ?_;refine cc hg ?_;apply z;clear z K)
  refine tI ?_;refine sC O H7 ?_;exact aR
 |true =>
 rw[gb,A9 rfl]at hg;obtain⟨hp,hr,a0⟩:=B1m gb;have I:=Prog.V8 p hp;have hF:=C0o p I (Prog.Sk p hp) (B9w hr) (B7g hr);unfold fiV at hF;cases Z:(Cp p).2 with
 |false =>
  rw[Z]at hF;generalize(Cp p).1=s at*;refine cB func7 ?_;refine sR H7<|sK λJ u1=>?_
  (refine sV H7 λK z=>?_;refine cc O ?_;refine cc hg ?_;apply z;clear z K)
  refine kI u1 ?_;clear u1 J;refine sC hF H7 ?_;refine kR H7 λJ u1=>?_;refine tI ?_;refine sR H7 ?_;exact aR
 |true =>
  have ao:=(B2u I (Prog.U9 p hp) hr Z).len;have ae:=A7e hp a0 Z 60;have ac:=λ(ts:List Ty) (cs:List Ad)=>B5b hp Z a0 (ts:=ts) (cs:=cs);have ag:=D2f hp a0 Z;have ab:=C8m Z;rw[Z]at hF;generalize(Cp p).1=s at*;refine G5.one ?_
  (refine G5.L5 func7 rfl (by decide) (by rw[ntmps7];simp) ?_;rw[ntmps7])
  refine sR H7<|sK λJ u1=>?_
  (refine sV H7 λK z=>?_;refine cc O ?_;refine cc hg ?_;apply z;clear z K)
  refine kI u1 ?_;clear u1 J;refine sC hF H7 ?_;refine kR H7 λJ u1=>?_;refine kI u1 ?_;clear u1 J;refine A0.M0 [1,3,5,6] [] 1 _ rfl rfl (by decide +kernel) λK hK=>?_;simp only[Ia,Ig];refine ev ?_;refine⟨_,A0x rfl rfl rfl ae Wo.closed,?_⟩;rintro r aj ⟨⟨U,rfl⟩|⟨am,ts,cs,rfl,hit,a4,ht,hc⟩,rfl⟩
  .exfalso;omega
  simp only[Ho,Kr,Hm,];refine ev ?_;refine hK _ _ ?_;clear hK K;obtain⟨f1,f2⟩:=ac ts cs hit a4 ht hc;have af:=B1i ts cs f1.calls.1;have a7:=A8i _ _ f1 f2;have V:=λx (hx:D5 x s.types)=>(A7r f2 hx ▸ B7y ts cs x f1.types.1 f1.types.2:Ac Tryz.prog 20 [Ur ts cs,B6 x] (Ay true));refine kR H7 λJ u1=>?_;refine kI u1 ?_;clear u1 J;refine kR H7 λJ u1=>?_;refine A0.bb (A0.ii ts (X:=Unit) (λj _=>[(1,.box 1 0),(3,.box 3 0),(5,.box 5 0),(7,A8 j)]) (λ_ _=>[(1,.cells ((An p).map .d)),(3,.cells (Fx s)),(5,.cells ((B1s ts cs).map .d))])
   (λ_ _=>True) () trivial sS (by simp[ble,A7,An]) ?_ ?_)
  rotate_left
  .intro j _ t ah E dp tk U _;have ai:=f1.types.2 t E;have M:=A5q p t 1;have a3:=hit t E;refine Ai U H7 λL u2=>?_;refine gI u2 ?_;clear u2 L;refine sK λL u2=>A0.bb ?_
   (refine sV H7 λK z=>?_;refine ci (Dv ah) ?_;apply z;clear z K)
   cases hi:Ch p t 1 with
   |false =>
    rw[hi]at M;refine sC M H7 ?_;refine A0.ff rfl (A0.kk (u2 _ _ ?_));clear u2 L
    (refine lV H7 λK z=>?_;refine cl ?_;apply z;clear z K;try simp only[A4,])
    exact⟨(),trivial,sS,by simp[ble,A7,An]⟩
   |true =>
    have a9:=C0f p I.sm t ai hi;rw[hi]at M;have a1:=ag.fields a3;have ak:=B1z I.sm t;generalize Bh p t=F at*;refine sC M H7 ?_;refine A0.tt rfl<|sC a9 H7 ?_;refine sR H7 ?_;refine A0.bb (A0.ii F (X:=Unit) (λk _=>[(1,.box 1 0),(3,.box 3 0),(5,.box 5 0),(7,A8 j),(9,.d (.slice (B9 F))),(10,A8 k)]) (λ_ _=>[(1,.cells ((An p).map .d)),(3,.cells (Fx s)),(5,.cells ((B1s ts cs).map .d))])
     (λ_ _=>True) () trivial sS (by simp[ble,A7,An]) ?_ ?_)
    rotate_left
    .intro k _ f a' aa a6 a5 a2 _;have hh:=V f.type (a1 f aa);refine Ai a2 H7 λK3 W=>?_;refine gI W ?_;clear W K3;refine sK λK3 W=>A0.bb ?_
     (refine sG H7 [] 6 [] λK z=>?_;refine ev ?_;refine ci (E9 a') ?_;refine cc hh ?_;apply z;clear z K)
     refine A0.ff rfl (A0.kk (W _ _ ?_));clear W K3;refine lT H7 ?_;exact⟨(),trivial,sS,by simp[ble,A7,An]⟩
    intro _ _;refine Ai B3 H7 λK3 W=>?_;refine A0.ss rfl ?_;simp only[A4,Ab,Ae];refine u2 _ _ ?_;clear W K3 u2 L
    (refine lV H7 λK z=>?_;refine cl ?_;apply z;clear z K;try simp only[A4,])
    exact⟨(),trivial,sS,by simp[ble,A7,An]⟩
  intro _ _;refine Ai B3 H7 λL u2=>?_;refine A0.ss rfl ?_;simp only[A4,Ab,Ae];refine u1 _ _ ?_;clear u2 L u1 J;refine kR H7 λJ u1=>?_;refine A0.bb (A0.ii cs (X:=Unit) (λj _=>[(3,.box 3 0),(5,.box 5 0),(11,A8 j)]) (λ_ _=>[(3,.cells (Fx s)),(5,.cells ((B1s ts cs).map .d))])
   (λ_ _=>True) () trivial sS sB ?_ ?_)
  rotate_left
  .intro j _ c ad E dp tk U _;have a8:D5 c.on s.types:=by
    obtain⟨d,hd,e⟩:=a4 c E;exact(ab d hd).er (A0m e).1.symm
   have hh:=V c.on a8;refine sK λL u2=>?_
   (refine sQ H7 λK z=>?_;simp -implicitDefEqProofs only[EV,Nat.reduceEqDiff,reduceCtorEq,P9,Rn,U,Er];apply z;clear z K)
   refine gI u2 ?_;clear u2 L;refine sK λL u2=>A0.bb ?_
   (refine sG H7 [] 7 [] λK z=>?_;refine ev ?_;refine⟨by omega,_,I0 ad,rfl,?_⟩;(try simp -implicitDefEqProofs only[EV,Nat.reduceAdd,Nat.reduceEqDiff,Nat.reduceLeDiff,reduceCtorEq,Du]);refine cc hh ?_;apply z;clear z K)
   refine A0.ff rfl (A0.kk (u2 _ _ ?_));clear u2 L
   (refine lV H7 λK z=>?_;refine cl ?_;apply z;clear z K;try simp only[A4,])
   exact⟨(),trivial,sS,by simp[ble,A7]⟩
  intro _ _;refine sK λL u2=>?_
  (refine sQ H7 λK z=>?_;simp -implicitDefEqProofs only[EV,Nat.reduceEqDiff,reduceCtorEq,P9,Rn,B3,Er];apply z;clear z K)
  refine A0.ss rfl ?_;simp only[A4,Ab,Ae];refine u1 _ _ ?_;clear u2 L u1 J
  (refine sG H7 [] 3 [] λK z=>?_;refine ev ?_;refine cc af ?_;refine cc a7 ?_;apply z;clear z K)
  exact A0.ret ⟨_,_,by rw[results7];rfl,rfl,rfl⟩
end Go.Abs
namespace Go.Proofs.YtcmlfpcaeflleaaGreatDoor
open Go Go.ChangeShapes Go.WideShapes Go.ChangeAt Go.RowKit Go.Abs
theorem F3t(os:Os)(E:os.Started)(H:Type)(enc:TypeId × Value->H) :
  ReturnsInHanded {} Tryz.checked os 7 .any (λw args=>(Rows.instanceClosesSpec.pre enc Tryz.prog Tryz.f7 Rows.instanceClosesRow.domain false w args/\laidMetH Tryz.prog Rows.instanceClosesRow.laid w)/\sizedMet enc Tryz.prog Tryz.f7 (OpenSpec.ofChange Rows.instanceClosesSpec) false w args)
   (Rows.instanceClosesSpec.post enc Tryz.prog Tryz.f7 false true false false):=by
 refine returnsInHanded_of_change_and (C:=Tryz.checked) (X:=λw _=>laidMetH Tryz.prog Rows.instanceClosesRow.laid w) (λ_ _ _ hh h=>laidMetH.of_heap hh h) own E (by kernel_rfl) Tryz.func7
  (ChangeSpec.witness_at (enc:=enc) (C:=Tryz.checked) (os:=os) (X:=λw _=>laidMetH Tryz.prog Rows.instanceClosesRow.laid w) false (B0f os) #[.agg #[.slice none 0 0,.int .i64 0,.string ⟨#[]⟩,.string ⟨#[]⟩,.slice none 0 0,.int .i64 0,.slice none 0 0,.slice none 0 0,.int .i64 0]] 8 rfl (by kernel_rfl) (by kernel_rfl) (by kernel_rfl) (by kernel_rfl) (by kernel_rfl) (B5n os _)) ?_
 intro W base args ds gs M J hW a1 U hL _;have I:∀(j:Nat) t v,Tryz.f7.params[j]?=some t->args[j]?=some v->Value.okWide Tryz.prog W .any base t v:=J;have a0:=hW;obtain⟨p,q,O,hV,rfl,a3,a2⟩:=hW;have hA:DataW.TrodAll enc Tryz.prog W 0 (λ_=>true) true Tryz.f7.params.toList args.toList ds p:=O;rw[Tryz.params7]at hA I;obtain⟨v0,d0,rfl,rfl,Z⟩:=trodAll_one hA;obtain⟨rfl,rfl⟩:=trodVars_none hV;have w0:=C5e (t0:=30) U;obtain⟨x0,r0⟩:=B6k (I 0 30 v0 rfl rfl) Z w0 A1c;obtain⟨_,_,V⟩:=B2t hL;refine(B4q (vs:=[v0]) (F0h x0) (.cons r0 .nil) V).mono λe W2 ⟨he,L⟩=>?_;subst he;exact⟨_,rfl,_,_,_,[],_,[],a0,trodAll_mk1 (shut_bool Tryz.underlying4 _),trodAll_mk1 (Below.trod laidOut (by kernel_rfl) (of_decide_eq_true (by kernel_rfl)) Z L (A4c Z)),rfl,L.frame _,λh=>by cases h⟩
theorem k0:Tryz.pinned.checked.prog.funcNamed Rows.instanceClosesRow.func=some 7:=by kernel_rfl
theorem F3x:(Rows.instanceClosesRow.inPlace ==Tryz.prog.inPlace 7)=true:=by kernel_rfl
theorem G9h:(Rows.instanceClosesRow.unfollowed ==Tryz.prog.unfollowed 7)=true:=by kernel_rfl
theorem H1f:(Rows.instanceClosesRow.recurses ==Tryz.prog.recurses 7)=true:=by kernel_rfl
theorem G9s:(Rows.instanceClosesRow.named ==Tryz.prog.varsNamed 7)=true:=by kernel_rfl
theorem k1:joinedFacts Tryz.prog 7 Tryz.f7 Rows.instanceClosesSpec Rows.instanceClosesRow=true:=by unfold joinedFacts;rw[F3x,G9h,H1f,G9s,laidOut,B4m,B5e,B4f,B3b,B4o];kernel_rfl
theorem G8m:Rows.instanceClosesRow.wfByText (OpenSpec.ofChange Rows.instanceClosesSpec)=true:=by kernel_rfl
theorem F0r:true=Tryz.prog.looks []:=by kernel_rfl
theorem H1e:false=Rows.instanceClosesRow.goesBy Tryz.prog:=B6n rfl
theorem k2:Tryz.f7.isInstance Tryz.pinned.checked.prog Rows.instanceClosesRow.origin Rows.instanceClosesRow.targs:=of_decide_eq_true (by kernel_rfl)
theorem k3:Tryz.f7.isWrapper Tryz.pinned.checked.prog Rows.instanceClosesRow.wrapper Rows.instanceClosesRow.mainSum:=by unfold Func.isWrapper;first| (rw[A9 (by decide +kernel)];kernel_rfl)| (rw[A6 (by decide +kernel)];exact⟨rfl,rfl⟩)
theorem k4:Rows.InstanceClosesSaid :=
 OpenClaim.holds_of_wide 7 Tryz.f7 rfl rfl rfl rfl rfl rfl rfl ⟨rfl,rfl,rfl,rfl,rfl⟩ rfl rfl rfl rfl rfl k0 Tryz.func7 k1
  k2 k3
  (λos E H enc _=>F3t os E H enc)
theorem instanceCloses_holds:Rows.InstanceClosesCardSaid :=
 Claim7.holds_tied_plain_at .later [] [.data,.data,.data] true (true, "c42edb424f26ca866ca1ec54dbf62a3300d32448bd7f28dd09af8a3762dfa1c8") true
  k4 (λ_ h=>by cases h) G8m (λ_ h=>by cases h) instanceCloses_row_tie rfl ⟨rfl,rfl⟩ (by kernel_rfl) rfl
  (λf fn J E=>by
   obtain rfl:f=7:=Pb ((show Tryz.prog.funcNamed "castings/castingslaw21.InstanceCloses" =some 7 by kernel_rfl).symm.trans J) |>.symm
   obtain rfl:fn=Tryz.f7:=(Pb (Tryz.func7.symm.trans E)).symm;exact⟨F0r,λj t ht=>by
    rw[Tryz.params7]at ht;have I:t∈[30]:=Br (i:=j) (by simpa using ht);simp only[Aw,Ej,Eh]at I;rcases I with rfl
    .exact(show Tryz.prog.wantsStandIn 30=false by kernel_rfl)⟩)
  H1e
end Go.Proofs.YtcmlfpcaeflleaaGreatDoor
