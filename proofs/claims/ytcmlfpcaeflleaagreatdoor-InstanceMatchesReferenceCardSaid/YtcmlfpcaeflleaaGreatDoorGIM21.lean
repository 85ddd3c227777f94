/- the instance set of any program, with any small budget, is that of the reference implementation, or none -/
import Derived.Test.YtcmlfpcaeflleaaGreatDoorGCG21
import Derived.Test.YtcmlfpcaeflleaaGreatDoorGYY
set_option linter.all false
set_option maxHeartbeats 4000000
set_option maxRecDepth 100000
namespace Go.Abs
open Go
variable {P:Program} {Ts:List TypeId}
variable {H:Type} {enc:TypeId × Value->H} {w:World}
theorem C4a{T:TypeId}{k:IntKind}(I:P.underlying T=some (.int k)){W:World}{base:Nat}{v:Value}{d:DataW H}{ps:List MemPlace}(E:Value.okWide P W .any base T v)
  (h:DataW.Trod enc P W 0 (λ_=>true) true T v d ps)(β:Names):∃z:Int,Ak (all W) W β (.d (.int k z)) v/\(Lit.int k z).wf=true:=by
 obtain⟨s,rfl⟩:=WideShapes.okWide_int I E;obtain⟨n,J⟩:=h;obtain⟨z,L,_,M⟩:=DataW.trod_int I J;have:s=z:=by simpa [Value.cells]using L
 subst this;exact⟨s,.d _ _ (.int k s),M⟩
end Go.Abs
namespace Go.Abs
open Go
section
variable {p:Prog} (hs:p.Sm) (ht:∀d,d∈p.decls->d.Tl) (hr:p.right=true)
include hs ht hr
end
theorem B2u{p:Prog}(J:p.Fit)(ht:∀d,d∈p.decls->d.Tl)(hr:p.right=true)(h:(Cp p).2=true):(Cp p).1.Fd:=by have M:=A7h _ _ _ h;obtain⟨U,O,L⟩:=B9d M;have I:=C2o J.sm ht hr;refine⟨A5w J,λt ht=>⟨I.types t ht,by have:=O t ht;omega⟩,λc E=>⟨λt ht=>⟨I.calls c E t ht,?_⟩,L c E⟩,U⟩;have:=L c E;have:=A5u ht;omega
end Go.Abs
namespace Go.Abs
open Go Go.Proofs Tryz
theorem D0n{i:Int}(E:(Lit.int .u8 i).wf=true):0<=i/\i<=255:=by simp[Lit.wf]at E;exact E
abbrev A4b:List Nat:=[0,1,2,3,4,12,905]
theorem B1i(ts:List Ty)(cs:List Ad)(M:cs.length<=sm):Ac Tryz.prog 14 [Ur ts cs] (I1 ⟨ts,cs,false⟩):=by
 refine cB func14 ?_;refine sR A4b ?_;refine sR A4b ?_;refine A0.U7 905 5 3 1 rfl rfl (by decide)<|kR A4b λO u1=>?_;refine A0.bb (A0.ii cs (X:=Unit) (λj _=>[(1,.box 1 0),(2,.box 2 0),(3,.box 3 0),(4,A8 j)])
  (λj _=>[(1,.cells [.d (.slice (Au ts)),.d (.slice (C7 cs))]),(2,.cells [.d .nil,.d .nil,.d (.bool false)]),(3,.cells [.d (.slice (Au ts)),.acc 905,.d (.bool false)]),(905,.rows 5 (C7 (cs.take j)))])
  (λ_ _=>True) () trivial sS (by simp[ble,A7,C7]) ?_ ?_)
 rotate_left
 .intro j _ c L J dp U I _;have W:=(B5.1 L).1;have V:C7 (cs.take (j+1))=C7 (cs.take j)++[Du c]:=by rw[U];simp[C7]
  have Z:(C7 (cs.take j)).length=j:=by rw[Er,Dx];omega
  rw[V];generalize C7 (cs.take j)=PR at*;refine sK λE u2=>?_
  (refine sQ A4b λK z=>?_;simp -implicitDefEqProofs only[EV,Nat.reduceEqDiff,reduceCtorEq,P9,Rn,I,Er];apply z;clear z K)
  refine gI u2 ?_;clear u2 E;refine sK λE u2=>A0.bb ?_
  (refine lG A4b [] 8 [] λK z=>?_;refine ev ?_;refine⟨by omega,_,I0 L,rfl,?_⟩;(try simp -implicitDefEqProofs only[EV,Nat.reduceAdd,Nat.reduceEqDiff,Nat.reduceBEq,Nat.reduceLeDiff,Nat.reduceMul,reduceCtorEq,Gb,Hr,Nb,Du]);refine⟨by simp,by unfold lim sm at*;omega,?_⟩;apply z;clear z K;try simp only[A4,Ab])
  refine u2 _ _ ?_;clear u2 E;refine lT A4b ?_;exact⟨(),trivial,sS,by simp[ble,A7,Du]⟩
 intro _ _;rw[Dm];refine sK λE u2=>?_
 (refine sQ A4b λK z=>?_;simp -implicitDefEqProofs only[EV,Nat.reduceEqDiff,reduceCtorEq,P9,Rn,B3,Er];apply z;clear z K)
 refine A0.ss rfl ?_;simp only[A4,Ab,Ae];refine u1 _ _ ?_;clear u2 E u1 O
 (refine A0.Jq 905 rfl (wk [(1,.box 1 0),(2,.box 2 0),(3,.box 3 0)] [(1,.cells [.d (.slice (Au ts)),.d (.slice (C7 cs))]),(2,.cells [.d .nil,.d .nil,.d (.bool false)]),(3,.cells [.d (.slice (Au ts)),.d (.slice (C7 cs)),.d (.bool false)])] ?_))
 refine sR A4b ?_;exact aR
abbrev Ut:List Nat:=[0,1,2,3,4,5,6,22,27,41,46,60]
theorem A8i(a b:Aj)(U:a.Sm)(h:A9j a b):Ac Tryz.prog 13 [I1 a,I1 b] (Ay true):=by
 have a0:=U.types.1;have Z:=U.calls.1;have W:(a.types.length:Int)=b.types.length:=by rw[h.tl]
 have V:(a.calls.length:Int)=b.calls.length:=by rw[h.cl]
 refine cB func13 ?_;refine sR Ut<|sK λM u1=>?_
 (refine sQ Ut λK z=>?_;simp -implicitDefEqProofs only[EV,Nat.reduceEqDiff,reduceCtorEq,Lq,Gb,Hr,W,V,Er,];apply z;clear z K)
 refine kI u1 ?_;clear u1 M;refine kR Ut λM u1=>?_;refine A0.bb (A0.ii a.types (X:=Unit) (λj _=>[(2,.box 2 0),(3,.box 3 0),(5,A8 j)]) (λ_ _=>[(2,.cells (Fx a)),(3,.cells (Fx b))])
  (λ_ _=>True) () trivial sS sB ?_ ?_)
 rotate_left
 .intro j _ t ht J dp tk L _;have I:j<b.types.length:=by rw[<-h.tl];exact(B5.1 ht).1
  have O:=B8 I;have hs:=C2v t b.types[j] (U.types.2 t J);rw[h.t j t _ ht O]at hs;generalize b.types[j]=u at*;refine Ai L Ut λE u2=>?_;refine gI u2 ?_;clear u2 E;refine sK λE u2=>A0.bb ?_
  (refine sG Ut [] 10 [] λK z=>?_;refine ev ?_;refine ci (Dv ht) ?_;refine ci (Dv O) ?_;refine cc hs ?_;apply z;clear z K)
  refine A0.ff rfl (A0.kk (u2 _ _ ?_));clear u2 E;refine lT Ut ?_;exact⟨(),trivial,sS,by simp[ble,A7]⟩
 intro _ _;refine Ai B3 Ut λE u2=>?_;refine A0.ss rfl ?_;simp only[A4,Ab,Ae];refine u1 _ _ ?_;clear u2 E u1 M;refine kR Ut λM u1=>?_;refine A0.bb (A0.ii a.calls (X:=Unit) (λj _=>[(2,.box 2 0),(3,.box 3 0),(6,A8 j)]) (λ_ _=>[(2,.cells (Fx a)),(3,.cells (Fx b))])
  (λ_ _=>True) () trivial sS sB ?_ ?_)
 rotate_left
 .intro j _ t ht J dp tk L _;have I:j<b.calls.length:=by rw[<-h.cl];exact(B5.1 ht).1
  have O:=B8 I;have hs:=B2o t (U.calls.2 t J) b.calls[j];rw[h.c j t _ ht O]at hs;generalize b.calls[j]=u at*;refine sK λE u2=>?_
  (refine sQ Ut λK z=>?_;simp -implicitDefEqProofs only[EV,Nat.reduceEqDiff,reduceCtorEq,Gb,Hr,L,Er];apply z;clear z K)
  refine gI u2 ?_;clear u2 E;refine sK λE u2=>A0.bb ?_
  (refine sG Ut [] 10 [] λK z=>?_;refine ev ?_;refine⟨by omega,_,I0 ht,rfl,?_⟩;(try simp -implicitDefEqProofs only[EV,Nat.reduceAdd,Nat.reduceEqDiff,reduceCtorEq,Gb,Hr,Nb,Du]);refine⟨by omega,_,I0 O,rfl,?_⟩;(try simp -implicitDefEqProofs only[EV,Nat.reduceAdd,Nat.reduceEqDiff,reduceCtorEq,Du]);refine cc hs ?_;apply z;clear z K)
  refine A0.ff rfl (A0.kk (u2 _ _ ?_));clear u2 E;refine lT Ut ?_;exact⟨(),trivial,sS,by simp[ble,A7]⟩
 intro _ _;refine sK λE u2=>?_
 (refine sQ Ut λK z=>?_;simp -implicitDefEqProofs only[EV,Nat.reduceEqDiff,reduceCtorEq,Gb,Hr,B3,Er];apply z;clear z K)
 refine A0.ss rfl ?_;simp only[A4,Ab,Ae];refine u1 _ _ ?_;clear u2 E u1 M;refine sR Ut ?_;exact aR
abbrev Sc:List Nat:=[0,1,2,4,5,6,7,8,9,16,24,37]
theorem F1t(p:Prog)(n:Int)(a1:(Lit.int .u8 n).wf=true):Ac Tryz.prog 3 [D7 p,.d (.int .u8 n)] (Ay true):=by
 have a':0<=n/\n<=255:=D0n a1;have I:=B6v;have U:=B5v p;cases gb:Yz p with
 |false =>
  rw[gb,A6 (by simp)]at U;refine cB func3 ?_;refine sR Sc<|sK λJ u1=>?_
  (refine sV Sc λK z=>?_;refine cc I ?_;refine cc U ?_;apply z;clear z K)
  refine tI ?_;refine sC I Sc ?_;exact aR
 |true =>
 rw[gb,A9 rfl]at U;obtain⟨hp,hr,L⟩:=B1m gb;have E:=Prog.V8 p hp;have V:=C0o p E (Prog.Sk p hp) (B9w hr) (B7g hr);unfold fiV at V;cases M:(Cp p).2 with
 |false =>
  rw[M]at V;generalize(Cp p).1=s at*;refine cB func3 ?_;refine sR Sc<|sK λJ u1=>?_
  (refine sV Sc λK z=>?_;refine cc I ?_;refine cc U ?_;apply z;clear z K)
  refine kI u1 ?_;clear u1 J;refine sC V Sc ?_;refine kR Sc λJ u1=>?_;refine tI ?_;refine sR Sc ?_;exact aR
 |true =>
  have a0:=A5w E;have a3:=C2e (Cp p).1 a0;have ab:(E7 (Cp p).1:Int)=(Cp p).1.types.length+(Cp p).1.calls.length:=by simp[E7]
  obtain⟨a,ha⟩:∃a:Nat,n.tmod 70=a:=⟨(n.tmod 70).toNat,by have:=Int.tmod_nonneg 70 a'.1;omega⟩
  have wn:IntKind.i64.wrap n=n:=wrap_i64 (by unfold Az;omega);have a2:=A7e hp L M (a:Int);have a4:=λ(ts:List Ty) (cs:List Ad)=>B5b hp M L (ts:=ts) (cs:=cs);rw[M]at V;generalize(Cp p).1=s at*;refine G5.one ?_
  (refine G5.L5 func3 rfl (by decide) (by rw[ntmps3];simp) ?_;rw[ntmps3])
  refine sR Sc<|sK λJ u1=>?_
  (refine sV Sc λK z=>?_;refine cc I ?_;refine cc U ?_;apply z;clear z K)
  refine kI u1 ?_;clear u1 J;refine sC V Sc ?_;refine kR Sc λJ u1=>?_;refine kI u1 ?_;clear u1 J;refine Fi wn ha Sc ?_;refine A0.M0 [2,5,7,8,9] [] 2 _ rfl rfl (by decide +kernel) λK O=>?_;simp only[Ia,Ig]
  (try refine ev ?_)
  refine⟨_,A0x rfl rfl rfl a2 Wo.closed,?_⟩;rintro r W ⟨⟨hlt,rfl⟩|⟨hge,ts,cs,rfl,hit,a5,ht,hc⟩,rfl⟩
  .simp only[Ho,Kr,Hm];refine ev ?_;refine O _ _ ?_;clear O K;have hd:decide ((a:Int)<(E7 s:Int))=true:=decide_eq_true (by omega)
   have a6:=B1i [] [] (by simp[sm]);have Z:=A8i ⟨[],[],false⟩ ⟨[],[],false⟩ ⟨⟨by simp,by simp⟩,by simp,by simp⟩ ⟨rfl,by simp,rfl,by simp⟩
   refine sK λJ u1=>?_
   (refine sQ Sc λK z=>?_;refine As hd ?_;refine⟨_,.inl ⟨_,rfl,a3,rfl⟩,?_⟩;(try refine As hd ?_);apply z;clear z K)
   refine tI ?_
   (refine sV Sc λK z=>?_;refine cc a6 ?_;refine cc Z ?_;apply z;clear z K)
   exact A0.ret ⟨_,_,by rw[results3];rfl,rfl,rfl⟩
  .simp only[Ho,Kr,Hm];refine ev ?_;refine O _ _ ?_;clear O K;have hd:decide ((a:Int)<(E7 s:Int))=false:=decide_eq_false (by omega)
   obtain⟨f1,f2⟩:=a4 ts cs hit a5 ht hc;have a6:=B1i ts cs f1.calls.1;have Z:=A8i _ _ f1 f2
   refine sK λJ u1=>?_
   (refine sQ Sc λK z=>?_;refine As hd ?_;refine⟨_,.inl ⟨_,rfl,a3,rfl⟩,?_⟩;(try refine As hd ?_);apply z;clear z K)
   refine kI u1 ?_;clear u1 J
   (refine sG Sc [] 5 [] λK z=>?_;refine ev ?_;refine cc a6 ?_;refine cc Z ?_;apply z;clear z K)
   exact A0.ret ⟨_,_,by rw[results3];rfl,rfl,rfl⟩
end Go.Abs
namespace Go.Proofs.YtcmlfpcaeflleaaGreatDoor
open Go Go.ChangeShapes Go.WideShapes Go.ChangeAt Go.RowKit Go.Abs
theorem B3x{H:Type}{P:Program}{t0 t1:TypeId}{ts:List TypeId}{d0 d1:DataW H}{E:List (DataW H)}(h:(DataW.weightsEach P ([t0,t1]++ts) ([d0,d1]++E)).all (·<=reachBytes)=true) :
  (∀k,k∈d0.weights P t0->k<=reachBytes)/\∀k,k∈d1.weights P t1->k<=reachBytes:=by
 simp only[Qp,Vt,DataW.weightsEach,Ar9,Bc,Dr,Da]at h;exact⟨h.1,h.2.1⟩
end Go.Proofs.YtcmlfpcaeflleaaGreatDoor
namespace Go.Proofs.YtcmlfpcaeflleaaGreatDoor
open Go Go.ChangeShapes Go.WideShapes Go.ChangeAt Go.RowKit Go.Abs
theorem H0t(os:Os)(E:os.Started)(H:Type)(enc:TypeId × Value->H) :
  ReturnsInHanded {} Tryz.checked os 3 .any (λw args=>(Rows.instanceMatchesReferenceSpec.pre enc Tryz.prog Tryz.f3 Rows.instanceMatchesReferenceRow.domain false w args/\laidMetH Tryz.prog Rows.instanceMatchesReferenceRow.laid w)/\sizedMet enc Tryz.prog Tryz.f3 (OpenSpec.ofChange Rows.instanceMatchesReferenceSpec) false w args)
   (Rows.instanceMatchesReferenceSpec.post enc Tryz.prog Tryz.f3 false true false false):=by
 refine returnsInHanded_of_change_and (C:=Tryz.checked) (X:=λw _=>laidMetH Tryz.prog Rows.instanceMatchesReferenceRow.laid w) (λ_ _ _ hh h=>laidMetH.of_heap hh h) own E (by kernel_rfl) Tryz.func3
  (ChangeSpec.witness_at (enc:=enc) (C:=Tryz.checked) (os:=os) (X:=λw _=>laidMetH Tryz.prog Rows.instanceMatchesReferenceRow.laid w) false (B0f os) #[.agg #[.slice none 0 0,.int .i64 0,.string ⟨#[]⟩,.string ⟨#[]⟩,.slice none 0 0,.int .i64 0,.slice none 0 0,.slice none 0 0,.int .i64 0],.int .u8 0] 8 rfl (by kernel_rfl) (by kernel_rfl) (by kernel_rfl) (by kernel_rfl) (by kernel_rfl) (B5n os _)) ?_
 intro W base args ds gs M J hW a1 U hL _;have I:∀(j:Nat) t v,Tryz.f3.params[j]?=some t->args[j]?=some v->Value.okWide Tryz.prog W .any base t v:=J;have a0:=hW;obtain⟨p,q,O,hV,rfl,a3,a2⟩:=hW;have hA:DataW.TrodAll enc Tryz.prog W 0 (λ_=>true) true Tryz.f3.params.toList args.toList ds p:=O;rw[Tryz.params3]at hA I;obtain⟨v0,v1,d0,d1,p0,p1,rfl,rfl,rfl,Z,h1⟩:=trodAll_two hA;obtain⟨rfl,rfl⟩:=trodVars_none hV;obtain⟨w0,w1⟩:=B3x (t0:=30) (t1:=5) U;obtain⟨x0,r0⟩:=B6k (I 0 30 v0 rfl rfl) Z w0 A1c;obtain⟨x1,r1,g1⟩:=C4a Tryz.underlying5 (I 1 5 v1 rfl rfl) h1 A1c;obtain⟨_,_,V⟩:=B2t hL;refine(B4q (vs:=[v0,v1]) (F1t x0 x1 g1) (.cons r0 (.cons r1 .nil)) V).mono λe W2 ⟨he,L⟩=>?_;subst he;exact⟨_,rfl,_,_,_,[],_,[],a0,trodAll_mk1 (shut_bool Tryz.underlying4 _),trodAll_mk2 (Below.trod laidOut (by kernel_rfl) (of_decide_eq_true (by kernel_rfl)) Z L (A4c Z)) (Below.trod laidOut (by kernel_rfl) (of_decide_eq_true (by kernel_rfl)) h1 L (A4c h1)),rfl,L.frame _,λh=>by cases h⟩
theorem k0:Tryz.pinned.checked.prog.funcNamed Rows.instanceMatchesReferenceRow.func=some 3:=by kernel_rfl
theorem G1p:(Rows.instanceMatchesReferenceRow.inPlace ==Tryz.prog.inPlace 3)=true:=by kernel_rfl
theorem H1d:(Rows.instanceMatchesReferenceRow.unfollowed ==Tryz.prog.unfollowed 3)=true:=by kernel_rfl
theorem G1n:(Rows.instanceMatchesReferenceRow.recurses ==Tryz.prog.recurses 3)=true:=by kernel_rfl
theorem F6s:(Rows.instanceMatchesReferenceRow.named ==Tryz.prog.varsNamed 3)=true:=by kernel_rfl
theorem k1:joinedFacts Tryz.prog 3 Tryz.f3 Rows.instanceMatchesReferenceSpec Rows.instanceMatchesReferenceRow=true:=by unfold joinedFacts;rw[G1p,H1d,G1n,F6s,laidOut,B4m,B5e,B4f,B3b,B4o];kernel_rfl
theorem G9b:Rows.instanceMatchesReferenceRow.wfByText (OpenSpec.ofChange Rows.instanceMatchesReferenceSpec)=true:=by kernel_rfl
theorem G8s:true=Tryz.prog.looks []:=by kernel_rfl
theorem G4k:false=Rows.instanceMatchesReferenceRow.goesBy Tryz.prog:=B6n rfl
theorem k2:Tryz.f3.isInstance Tryz.pinned.checked.prog Rows.instanceMatchesReferenceRow.origin Rows.instanceMatchesReferenceRow.targs:=of_decide_eq_true (by kernel_rfl)
theorem k3:Tryz.f3.isWrapper Tryz.pinned.checked.prog Rows.instanceMatchesReferenceRow.wrapper Rows.instanceMatchesReferenceRow.mainSum:=by unfold Func.isWrapper;first| (rw[A9 (by decide +kernel)];kernel_rfl)| (rw[A6 (by decide +kernel)];exact⟨rfl,rfl⟩)
theorem k4:Rows.InstanceMatchesReferenceSaid :=
 OpenClaim.holds_of_wide 3 Tryz.f3 rfl rfl rfl rfl rfl rfl rfl ⟨rfl,rfl,rfl,rfl,rfl⟩ rfl rfl rfl rfl rfl k0 Tryz.func3 k1
  k2 k3
  (λos E H enc _=>H0t os E H enc)
theorem instanceMatchesReference_holds:Rows.InstanceMatchesReferenceCardSaid :=
 Claim7.holds_tied_plain_at .later [] [.data,.data,.data] true (true, "c42edb424f26ca866ca1ec54dbf62a3300d32448bd7f28dd09af8a3762dfa1c8") true
  k4 (λ_ h=>by cases h) G9b (λ_ h=>by cases h) instanceMatchesReference_row_tie rfl ⟨rfl,rfl⟩ (by kernel_rfl) rfl
  (λf fn J E=>by
   obtain rfl:f=3:=Pb ((show Tryz.prog.funcNamed "castings/castingslaw21.InstanceMatchesReference" =some 3 by kernel_rfl).symm.trans J) |>.symm
   obtain rfl:fn=Tryz.f3:=(Pb (Tryz.func3.symm.trans E)).symm;exact⟨G8s,λj t ht=>by
    rw[Tryz.params3]at ht;have I:t∈[30,5]:=Br (i:=j) (by simpa using ht);simp only[Aw,Ej,Eh]at I;rcases I with rfl|rfl
    .exact(show Tryz.prog.wantsStandIn 30=false by kernel_rfl)
    .exact(show Tryz.prog.wantsStandIn 5=false by kernel_rfl)⟩)
  G4k
end Go.Proofs.YtcmlfpcaeflleaaGreatDoor
