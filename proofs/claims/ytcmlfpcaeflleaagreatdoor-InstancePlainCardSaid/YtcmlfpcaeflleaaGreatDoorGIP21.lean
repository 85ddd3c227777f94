/- the instance set of a program without type parameters has only types without arguments, and calls without type arguments -/
import Derived.Test.YtcmlfpcaeflleaaGreatDoorGCG21
set_option linter.all false
set_option maxHeartbeats 4000000
set_option maxRecDepth 100000
namespace Go.Abs
open Go Go.Proofs Tryz
theorem C7e{α β:Type}(f:α->List β)(c:Nat):∀l:List α,(∀x,x∈l->(f x).length<=c)->(l.flatMap f).length<=l.length*c
 |[],_=>by simp
 |a::l,h=>by rw[Au5,Bz,C6,Nat.succ_mul];have:=C7e f c l λx E=>h x (by simp[E]);have:=h a (by simp);omega
theorem C1n{s:A5}(h:s.Le):(A0d s).length<=4001:=by have:=h.A1;have:=h.params;simp only[A0d,Lb,Np,Bz,Bn,C6,Dy];omega
theorem C9j{l:List A5}(E:l.length<=3000)(h:∀s,s∈l->s.Le):(W0 l).length<=12003000:=by have J:=C7e A0d 4001 l λs hs=>C1n (h s hs);have I:l.length*4001<=3000*4001:=I9 _ E;unfold W0;omega
theorem G1u{l:List A5}(E:l.length<=3000)(h:∀s,s∈l->s.Le)(j:Nat):(W0 (l.take j)).length<=12003000 :=
 C9j (by rw[Dx];omega) λs hs=>h s (Hh hs)
theorem G4f{d:Decl}(h:d.Le):(A5y d).length<=6001:=by
 unfold A5y;split
 .rw[Bz];have:=C1n h.sig;have:=h.body.Cq;omega
 .simp
theorem G0k{d:Decl}(h:d.Le):(B3c d).length<=13000000:=by have:=C9j h.B6b h.sigs;have:=G4f h;have:=h.A1;have:=h.fields;simp only[B3c,Lb,Np,Bz,Bn];omega
theorem C3i{l:List Decl}(E:l.length<=200000)(h:∀s,s∈l->s.Le):(Yt l).length<=2600000000000:=by have J:=C7e B3c 13000000 l λs hs=>G0k (h s hs);have I:l.length*13000000<=200000*13000000:=I9 _ E;unfold Yt;omega
theorem F4d{l:List Decl}(E:l.length<=200000)(h:∀s,s∈l->s.Le)(j:Nat):(Yt (l.take j)).length<=2600000000000 :=
 C3i (by rw[Dx];omega) λs hs=>h s (Hh hs)
theorem F1a{p:Prog}(h:p.Le):(A9x p).length<=2600000002000:=by have:=C3i h.B4e h.decls;have:=h.main.Cq;unfold A9x;rw[Bz];omega
abbrev Uc:List Nat:=[0,1,2,3,4,5,10,26]
theorem E2i(s:A5)(hs:s.Le):Ac Tryz.prog 103 [Ea s] (.d (.slice (Au (A0d s)))):=by
 have W:=hs.A1;have Z:=hs.params;unfold A0d;refine cB func103 ?_;refine sR Uc ?_;refine sR Uc ?_;refine A0.pp 3 3 3 rfl<|kR Uc λO u1=>?_;refine A0.bb (A0.ii s.A1 (X:=Unit) (λj _=>[(1,.box 1 0),(3,.acc 3),(4,A8 j)]) (λj _=>[(1,.cells (Tg s)),(3,.rows 3 (Au (Lb (s.A1.take j))))])
  (λ_ _=>True) () trivial sS (by simp[ble,A7,Lb,Cz]) ?_ ?_)
 rotate_left
 .intro j _ u L J V U I _;have M:=(B5.1 L).1;rw[U];refine Ai I Uc λE u2=>?_;refine gI u2 ?_;clear u2 E;refine sK λE u2=>A0.bb ?_
  (refine lV Uc λK z=>?_;refine ci (F5 L) ?_;refine⟨by simp,by(try simp only[Lb,Bn,Dx]);unfold lim;omega,?_⟩;(try refine ev ?_);apply z;clear z K;try simp only[A4,Ab])
  refine u2 _ _ ?_;clear u2 E
  (refine lV Uc λK z=>?_;refine cl ?_;apply z;clear z K;try simp only[A4,])
  exact⟨(),trivial,sS,by simp[ble,A7,Cz,Lb,Be]⟩
 intro _ _;rw[Dm];refine Ai B3 Uc λE u2=>?_;refine A0.ss rfl ?_;simp only[A4,Ab,Ae];refine u1 _ _ ?_;clear u2 E u1 O;refine kR Uc λO u1=>?_;refine A0.bb (A0.ii s.params (X:=Unit) (λj _=>[(1,.box 1 0),(3,.acc 3),(5,A8 j)]) (λj _=>[(1,.cells (Tg s)),(3,.rows 3 (Au (Lb s.A1++Np (s.params.take j))))])
  (λ_ _=>True) () trivial sS (by simp[ble,A7,Np,Cz]) ?_ ?_)
 rotate_left
 .intro j _ u L J V U I _;have M:=(B5.1 L).1;rw[U];refine Ai I Uc λE u2=>?_;refine gI u2 ?_;clear u2 E;refine sK λE u2=>A0.bb ?_
  (refine lV Uc λK z=>?_;refine ci (E9 L) ?_;refine⟨by simp,by(try simp only[Lb,Np,Bz,Bn,Dx]);unfold lim;omega,?_⟩;(try refine ev ?_);apply z;clear z K;try simp only[A4,Ab])
  refine u2 _ _ ?_;clear u2 E
  (refine lV Uc λK z=>?_;refine cl ?_;apply z;clear z K;try simp only[A4,])
  exact⟨(),trivial,sS,by simp[ble,A7,Cz,Np,Be]⟩
 intro _ _;rw[Dm];refine Ai B3 Uc λE u2=>?_;refine A0.ss rfl ?_;simp only[A4,Ab,Ae];refine u1 _ _ ?_;clear u2 E u1 O;rw[C5g (Lb s.A1++Np s.params),show Au [s.result]=[Be s.result] by simp[Cz]]
 (refine sV Uc λK z=>?_;refine⟨by simp,by(try simp only[Lb,Np,Bz,Bn]);unfold lim;omega,?_⟩;(try refine ev ?_);apply z;clear z K)
 exact aR
abbrev Qh:List Nat:=[0,1,2,3,4,5,11,34]
theorem E7o(e:Ex)(O:e.Le):Ac Tryz.prog 104 [D0 e] (.d (.slice (Au (A2g e)))):=by
 have h1:=C0g e (by have:=O.list;unfold sm;omega);have V:=O.Cq;have a0:=O.list;unfold A2g at*;generalize Bg e=l at*;have M:∀j,(Pd (l.take j)).length<=(Pd l).length:=λj=>by
  conv=>rhs;rw[<-Ak4 j l,C1j,Bz]
  omega
 refine cB func104 ?_;refine sR Qh ?_;refine sR Qh ?_;refine A0.pp 3 3 3 rfl<|sC h1 Qh ?_;refine kR Qh λK1 u1=>?_;refine A0.bb (A0.ii l (X:=Unit) (λj _=>[(3,.acc 3),(4,.d (.slice (Ew l))),(5,A8 j)]) (λj _=>[(3,.rows 3 (Au (Pd (l.take j))))])
  (λ_ _=>True) () trivial sS (by simp[ble,A7,Pd,Cz]) ?_ ?_)
 rotate_left
 .intro j _ u I Z dp W U _;have a1:=M j;have E:=M (j+1);rw[W,C1j,show Pd [u]=A8f u by simp[Pd]]at E;rw[W,C1j,show Pd [u]=A8f u by simp[Pd]];rw[Bz]at E;generalize Pd (l.take j)=A at*;refine Ai U Qh λJ u2=>?_;refine gI u2 ?_;clear u2 J;refine sK λJ u2=>A0.bb ?_;unfold A8f at*;rw[Bz]at E
  (refine sV Qh λK z=>?_;refine ci (Dn I) ?_;refine⟨A0j _,by(try simp only[Cz,Bz,Bn]);unfold lim;omega,?_⟩;(try refine ev ?_);apply z;clear z K)
  by_cases k3:u.kind=3
  .have d3:decide (u.kind=3)=true:=Bo k3;rw[A9 (.inl k3)]at E |-
   (refine sV Qh λK z=>?_;refine⟨by omega,_,Dn I,rfl,?_⟩;(try refine As d3 ?_);apply z;clear z K)
   refine A0.tt rfl ?_
   (refine lV Qh λK z=>?_;refine ci (Dn I) ?_;refine⟨by simp,by(try simp only[Cz,Bz,Bn,C6,Dy]at*);unfold lim;omega,?_⟩;(try refine ev ?_);apply z;clear z K;try simp only[A4,Ab])
   refine u2 _ _ ?_;clear u2 J
   (refine lV Qh λK z=>?_;refine cl ?_;apply z;clear z K;try simp only[A4,])
   exact⟨(),trivial,sS,by simp[ble,A7,Cz,Be,k3]⟩
  by_cases L:u.kind=5
  .have d5:decide (u.kind=5)=true:=Bo L;rw[A9 (.inr L)]at E |-
   (refine sV Qh λK z=>?_;refine⟨by omega,_,Dn I,rfl,?_⟩;(try refine As k3 ?_);refine⟨by omega,_,Dn I,rfl,?_⟩;(try refine As d5 ?_);apply z;clear z K)
   refine A0.tt rfl ?_
   (refine lV Qh λK z=>?_;refine ci (Dn I) ?_;refine⟨by simp,by(try simp only[Cz,Bz,Bn,C6,Dy]at*);unfold lim;omega,?_⟩;(try refine ev ?_);apply z;clear z K;try simp only[A4,Ab])
   refine u2 _ _ ?_;clear u2 J
   (refine lV Qh λK z=>?_;refine cl ?_;apply z;clear z K;try simp only[A4,])
   exact⟨(),trivial,sS,by simp[ble,A7,Cz,Be,L]⟩
  .rw[A6 (by rintro(h|h) <;> contradiction),I8]
   (refine sV Qh λK z=>?_;refine⟨by omega,_,Dn I,rfl,?_⟩;(try refine As k3 ?_);refine⟨by omega,_,Dn I,rfl,?_⟩;(try refine As L ?_);apply z;clear z K)
   refine A0.ff rfl (A0.kk (u2 _ _ ?_));clear u2 J
   (refine lV Qh λK z=>?_;refine cl ?_;apply z;clear z K;try simp only[A4,])
   exact⟨(),trivial,sS,by simp[ble,A7,Cz,k3,L]⟩
 intro _ _;rw[Dm];refine Ai B3 Qh λJ u2=>?_;refine A0.ss rfl ?_;simp only[A4,Ab,Ae];refine u1 _ _<|sR Qh ?_;exact aR
abbrev Z4:List Nat:=[0,1,2,3,4,10,19]
theorem E1d(e:Ex)(O:e.Le):Ac Tryz.prog 53 [D0 e] (Ay (A3b e)):=by
 have V:=C0g e (by have:=O.list;unfold sm;omega);have W:=O.list;unfold A3b;generalize Bg e=l at*;refine cB func53 ?_;refine sR Z4 ?_;refine sC V Z4 ?_;refine kR Z4 λK1 u1=>?_;refine A0.bb (A0.ii l (X:=Unit) (λj _=>[(3,.d (.slice (Ew l))),(4,A8 j)]) (λ_ _=>[])
  (λj _=>l.all (λx=>decide (x.targs.length=0))=(l.drop j).all (λx=>decide (x.targs.length=0))) () rfl sS sB ?_ ?_)
 rotate_left
 .intro j _ u U M Z tk L E;rw[Z,Ro]at E;refine Ai L Z4 λI u2=>?_;refine gI u2 ?_;clear u2 I;refine sK λI u2=>A0.bb ?_;by_cases hz:u.targs.length=0
  .have J:¬(u.targs.length:Int) > 0:=by omega
   rw[Bo hz,Cr]at E
   (refine sV Z4 λK z=>?_;refine⟨by omega,_,Dn U,rfl,?_⟩;(try refine As J ?_);apply z;clear z K)
   refine A0.ff rfl (A0.kk (u2 _ _ ?_));clear u2 I
   (refine lV Z4 λK z=>?_;refine cl ?_;apply z;clear z K;try simp only[A4,])
   exact⟨(),E,sS,sB⟩
  .have J:(u.targs.length:Int) > 0:=by omega
   rw[E,Ce hz,C9]
   (refine sV Z4 λK z=>?_;refine⟨by omega,_,Dn U,rfl,?_⟩;(try refine As J ?_);apply z;clear z K)
   refine A0.tt rfl<|sR Z4 ?_;exact aR
 intro _ E;rw[De,Aq0]at E;rw[E]at u1 |-;refine Ai B3 Z4 λI u2=>?_;refine A0.ss rfl ?_;simp only[A4,Ab,Ae];refine u1 _ _<|sR Z4 ?_;exact aR
abbrev Ir:List Nat:=[0,1,2,3,4,5,6,7,8,13,25,41,57,70]
theorem G6k(p:Prog)(hp:p.Le):Ac Tryz.prog 52 [D7 p] (.d (.slice (Au (A9x p)))):=by
 have ah:=hp.B4e;have a5:=E7o p.main hp.main;have ak:=hp.main.Cq;have a3:=F4d hp.B4e hp.decls;unfold A9x;refine cB func52 ?_;refine sR Ir ?_;refine sR Ir ?_;refine A0.pp 3 3 3 rfl<|kR Ir λK1 u1=>?_;refine A0.bb (A0.ii p.decls (X:=Unit) (λj _=>[(1,.box 1 0),(3,.acc 3),(4,A8 j)]) (λj _=>[(1,.cells ((An p).map .d)),(3,.rows 3 (Au (Yt (p.decls.take j))))])
  (λ_ _=>True) () trivial sS (by simp[ble,A7,Yt,Cz,An]) ?_ ?_)
 rotate_left
 .intro j _ d hd a0 dp tk a' _;have a4:=a3 j;have I:=hp.decls d a0;have ag:=I.A1;have ai:=I.fields;have ae:=I.B6b;have a8:=G1u I.B6b I.sigs;have a6:=E2i d.sig I.sig;have a9:=E7o d.body I.body;have aj:=C1n I.sig;have af:=I.body.Cq;rw[tk];have a1:Yt (p.decls.take j++[d])=Yt (p.decls.take j)++Lb d.A1++Np d.fields++W0 d.sigs++A5y d:=by simp[Yt,B3c]
  rw[a1];generalize Yt (p.decls.take j)=A at*;refine Ai a' Ir λK2 u2=>?_;refine gI u2 ?_;clear u2 K2;refine sK λK2 u2=>A0.bb ?_
  (refine sV Ir λK z=>?_;refine ci (Ev hd) ?_;apply z;clear z K)
  refine kR Ir λK3 Z=>?_;refine A0.bb (A0.ii d.A1 (X:=Unit) (λi _=>[(1,.box 1 0),(3,.acc 3),(4,A8 j),(5,.box 5 0),(6,A8 i)]) (λi _=>[(1,.cells ((An p).map .d)),(3,.rows 3 (Au (A++Lb (d.A1.take i)))),(5,.cells (Uo d))])
   (λ_ _=>True) () trivial sS (by simp[ble,A7,Lb,Cz,An]) ?_ ?_)
  rotate_left
  .intro i _ u W L V E O _;have a2:=(B5.1 W).1;rw[E];refine Ai O Ir λM J=>?_;refine gI J ?_;clear J M;refine sK λM J=>A0.bb ?_
   (refine lV Ir λK z=>?_;refine ci (F5 W) ?_;refine⟨by simp,by(try simp only[Lb,Bz,Bn,Dx]);unfold lim;omega,?_⟩;(try refine ev ?_);apply z;clear z K;try simp only[A4,Ab])
   refine J _ _ ?_;clear J M
   (refine lV Ir λK z=>?_;refine cl ?_;apply z;clear z K;try simp only[A4,])
   exact⟨(),trivial,sS,by simp[ble,A7,Cz,Lb,An,Be]⟩
  intro _ _;rw[Dm];refine Ai B3 Ir λM J=>?_;refine A0.ss rfl ?_;simp only[A4,Ab,Ae];refine Z _ _ ?_;clear J M Z K3;refine kR Ir λK3 Z=>?_;refine A0.bb (A0.ii d.fields (X:=Unit) (λi _=>[(1,.box 1 0),(3,.acc 3),(4,A8 j),(5,.box 5 0),(7,A8 i)]) (λi _=>[(1,.cells ((An p).map .d)),(3,.rows 3 (Au (A++Lb d.A1++Np (d.fields.take i)))),(5,.cells (Uo d))])
   (λ_ _=>True) () trivial sS (by simp[ble,A7,Np,Cz,An]) ?_ ?_)
  rotate_left
  .intro i _ u W L V E O _;have a2:=(B5.1 W).1;rw[E];refine Ai O Ir λM J=>?_;refine gI J ?_;clear J M;refine sK λM J=>A0.bb ?_
   (refine lV Ir λK z=>?_;refine ci (E9 W) ?_;refine⟨by simp,by(try simp only[Lb,Np,Bz,Bn,Dx]);unfold lim;omega,?_⟩;(try refine ev ?_);apply z;clear z K;try simp only[A4,Ab])
   refine J _ _ ?_;clear J M
   (refine lV Ir λK z=>?_;refine cl ?_;apply z;clear z K;try simp only[A4,])
   exact⟨(),trivial,sS,by simp[ble,A7,Cz,Np,An,Be]⟩
  intro _ _;rw[Dm];refine Ai B3 Ir λM J=>?_;refine A0.ss rfl ?_;simp only[A4,Ab,Ae];refine Z _ _ ?_;clear J M Z K3;have ab:(A++Lb d.A1++Np d.fields).length<=2600000004000:=by simp only[Lb,Np,Bz,Bn];omega
  generalize A++Lb d.A1++Np d.fields=A2 at*;refine kR Ir λK3 Z=>?_;refine A0.bb (A0.ii d.sigs (X:=Unit) (λi _=>[(1,.box 1 0),(3,.acc 3),(4,A8 j),(5,.box 5 0),(8,A8 i)]) (λi _=>[(1,.cells ((An p).map .d)),(3,.rows 3 (Au (A2++W0 (d.sigs.take i)))),(5,.cells (Uo d))])
   (λ_ _=>True) () trivial sS (by simp[ble,A7,W0,Cz,An]) ?_ ?_)
  rotate_left
  .intro i _ u W L V E O _;have a2:=(B5.1 W).1;have ac:=C1n (I.sigs u L);have a7:=E2i u (I.sigs u L);have ad:=a8 i;rw[E,show W0 (d.sigs.take i++[u])=W0 (d.sigs.take i)++A0d u by simp[W0],<-N6];generalize W0 (d.sigs.take i)=B at*;generalize A0d u=U at*;refine Ai O Ir λM J=>?_;refine gI J ?_;clear J M;refine sK λM J=>A0.bb ?_
   (refine lV Ir λK z=>?_;refine ci (F6 W) ?_;refine cc a7 ?_;refine⟨A0j _,by(try simp only[Bz]);unfold lim;omega,?_⟩;(try refine ev ?_);apply z;clear z K;try simp only[A4,Ab])
   refine J _ _ ?_;clear J M
   (refine lV Ir λK z=>?_;refine cl ?_;apply z;clear z K;try simp only[A4,])
   exact⟨(),trivial,sS,by simp[ble,A7,Cz,An]⟩
  intro _ _;rw[Dm];refine Ai B3 Ir λM J=>?_;refine A0.ss rfl ?_;simp only[A4,Ab,Ae];refine Z _ _ ?_;clear J M Z K3;have aa:=C9j I.B6b I.sigs;generalize W0 d.sigs=B at*;unfold A5y;by_cases k3:d.kind=3
  .have d3:=Bo k3;rw[A9 k3];refine Aq d3 Ir ?_;refine A0.tt rfl ?_
   (refine sV Ir λK z=>?_;refine cc a6 ?_;refine⟨A0j _,by(try simp only[Bz]);unfold lim;omega,?_⟩;(try refine ev ?_);apply z;clear z K)
   (refine lV Ir λK z=>?_;refine cc a9 ?_;refine⟨A0j _,by(try simp only[Cz,Bz,Bn]);unfold lim;omega,?_⟩;(try refine ev ?_);apply z;clear z K;try simp only[A4,Ab])
   refine u2 _ _ ?_;clear u2 K2
   (refine lV Ir λK z=>?_;refine cl ?_;apply z;clear z K;try simp only[A4,])
   exact⟨(),trivial,sS,by simp[ble,A7,Cz,An,A5y,k3]⟩
  .rw[A6 k3,I8];refine Aq k3 Ir ?_;refine A0.ff rfl (A0.kk (u2 _ _ ?_));clear u2 K2
   (refine lV Ir λK z=>?_;refine cl ?_;apply z;clear z K;try simp only[A4,])
   exact⟨(),trivial,sS,by simp[ble,A7,Cz,An,A5y,k3]⟩
 intro _ _;rw[Dm];have a4:=C3i hp.B4e hp.decls;refine Ai B3 Ir λK2 u2=>?_;refine A0.ss rfl ?_;simp only[A4,Ab,Ae];refine u1 _ _ ?_;clear u2 K2 u1 K1;rw[C5g]
 (refine sV Ir λK z=>?_;refine cc a5 ?_;refine⟨A0j _,by(try simp only[Cz,Bz,Bn]);unfold lim;omega,?_⟩;(try refine ev ?_);apply z;clear z K)
 exact aR
abbrev J1:List Nat:=[0,1,2,3,4,5,6,7,13,22,27,53,58,68]
theorem F3y(p:Prog)(hp:p.Le)(a2:∀d,d∈p.decls->d.vars.length<=sm):Ac Tryz.prog 19 [D7 p] (Ay (A8v p)):=by
 have h1:=G6k p hp;have a4:=E1d p.main hp.main;have a5:=F1a hp;have a6:=hp.B4e;unfold A8v;generalize A9x p=l at*;refine cB func19 ?_;refine sR J1 ?_;refine sC h1 J1 ?_;refine kR J1 λK1 u1=>?_;refine A0.bb (A0.ii l (X:=Unit) (λj _=>[(1,.box 1 0),(3,.d (.slice (Au l))),(4,A8 j)]) (λ_ _=>[(1,.cells ((An p).map .d))])
  (λj _=>A5o l=A5o (l.drop j)) () rfl sS (by simp[ble,A7,An]) ?_ ?_)
 rotate_left
 .intro j _ u hu M dp tk Z E;rw[dp,show A5o (u::l.drop (j+1))=(decide (u.args.length=0) && A5o (l.drop (j+1))) from rfl]at E;refine Ai Z J1 λL u2=>?_;refine gI u2 ?_;clear u2 L;refine sK λL u2=>A0.bb ?_;by_cases hz:u.args.length=0
  .have I:¬(u.args.length:Int) > 0:=by omega
   rw[Bo hz,Cr]at E
   (refine sV J1 λK z=>?_;refine⟨by omega,_,Dv hu,rfl,?_⟩;(try refine As I ?_);apply z;clear z K)
   refine A0.ff rfl (A0.kk (u2 _ _ ?_));clear u2 L
   (refine lV J1 λK z=>?_;refine cl ?_;apply z;clear z K;try simp only[A4,])
   exact⟨(),E,sS,by simp[ble,A7,An]⟩
  .have I:(u.args.length:Int) > 0:=by omega
   rw[Ce hz,C9]at E;rw[show A5o l=false from E,C9]
   (refine sV J1 λK z=>?_;refine⟨by omega,_,Dv hu,rfl,?_⟩;(try refine As I ?_);apply z;clear z K)
   refine A0.tt rfl<|sR J1 ?_;exact aR
 intro _ E;rw[De]at E;rw[show A5o l=true from E,Cr]at u1 |-;clear E;refine Ai B3 J1 λL u2=>?_;refine A0.ss rfl ?_;simp only[A4,Ab,Ae];refine u1 _ _ ?_;clear u2 L u1 K1;refine kR J1 λK1 u1=>?_;refine A0.bb (A0.ii p.decls (X:=Unit) (λj _=>[(1,.box 1 0),(5,A8 j)]) (λ_ _=>[(1,.cells ((An p).map .d))])
  (λj _=>p.decls.all A0i=(p.decls.drop j).all A0i) () rfl sS (by simp[ble,A7,An]) ?_ ?_)
 rotate_left
 .intro j _ d hd M dp tk Z E;have V:=hp.decls d M;have hb:=E1d d.body V.body;have hf:=V.A1;have hv:=a2 d M;have a7:=V.sig.A1;have a8:=V.B6b;rw[dp,Ro]at E;have J:(decide (d.A1.length+d.vars.length+d.sig.A1.length=0) && (A3b d.body && A3d d.sigs))=false->(p.decls.all A0i && A3b p.main)=false:=λh=>by rw[E,show A0i d=false from h];rfl
  have O:(decide (d.A1.length+d.vars.length+d.sig.A1.length=0) && (A3b d.body && A3d d.sigs))=true->p.decls.all A0i=(p.decls.drop (j+1)).all A0i:=λh=>by rw[E,show A0i d=true from h,Cr]
  clear E;generalize A3b d.body=be at*;refine Ai Z J1 λL u2=>?_;refine gI u2 ?_;clear u2 L;refine sK λL u2=>A0.bb ?_
  (refine sV J1 λK z=>?_;refine ci (Ev hd) ?_;apply z;clear z K)
  refine sK λK3 u3=>?_;by_cases hz:d.A1.length+d.vars.length+d.sig.A1.length=0;rotate_left
  .have I:(d.A1.length:Int)+(d.vars.length:Int)+(d.sig.A1.length:Int) > 0:=by omega
   rw[J (by rw[Ce hz];rfl)]
   (refine sQ J1 λK z=>?_;refine As I ?_;refine⟨by first| (unfold Az;omega)| (simp only[Az,sm]at*;omega),?_⟩;(try refine As I ?_);refine⟨by first| (unfold Az;omega)| (simp only[Az,sm]at*;omega),?_⟩;(try refine As I ?_);apply z;clear z K)
   refine tI ?_;refine sR J1 ?_;exact aR
  have I:¬(d.A1.length:Int)+(d.vars.length:Int)+(d.sig.A1.length:Int) > 0:=by omega
  rw[Bo hz,Cr]at J O;cases be with
  |false =>
   rw[J rfl]
   (refine sQ J1 λK z=>?_;refine As I ?_;refine⟨by first| (unfold Az;omega)| (simp only[Az,sm,lim]at*;omega),?_⟩;(try refine As I ?_);refine⟨by first| (unfold Az;omega)| (simp only[Az,sm,lim]at*;omega),?_⟩;(try refine As I ?_);refine cc hb ?_;apply z;clear z K)
   refine tI ?_;refine sR J1 ?_;exact aR
  |true =>
   rw[Cr]at J O
   (refine sQ J1 λK z=>?_;refine As I ?_;refine⟨by first| (unfold Az;omega)| (simp only[Az,sm,lim]at*;omega),?_⟩;(try refine As I ?_);refine⟨by first| (unfold Az;omega)| (simp only[Az,sm,lim]at*;omega),?_⟩;(try refine As I ?_);refine cc hb ?_;apply z;clear z K)
   refine kI u3 ?_;clear u3 K3;refine sR J1 ?_;refine A0.bb (A0.ii d.sigs (X:=Unit) (λi _=>[(1,.box 1 0),(5,A8 j),(6,.box 6 0),(7,A8 i)]) (λ_ _=>[(1,.cells ((An p).map .d)),(6,.cells (Uo d))])
    (λi _=>A3d d.sigs=A3d (d.sigs.drop i)) () rfl sS (by simp[ble,A7,An]) ?_ ?_)
   rotate_left
   .intro i _ u hu a3 U a1 a0 E;rw[U,show A3d (u::d.sigs.drop (i+1))=(decide (u.A1.length=0) && A3d (d.sigs.drop (i+1))) from rfl]at E;refine Ai a0 J1 λK4 W=>?_;refine gI W ?_;clear W K4;refine sK λK4 W=>A0.bb ?_;by_cases hz:u.A1.length=0
    .have I:¬(u.A1.length:Int) > 0:=by omega
     rw[Bo hz,Cr]at E
     (refine sV J1 λK z=>?_;refine⟨by omega,_,F6 hu,rfl,?_⟩;(try refine As I ?_);apply z;clear z K)
     refine A0.ff rfl (A0.kk (W _ _ ?_));clear W K4
     (refine lV J1 λK z=>?_;refine cl ?_;apply z;clear z K;try simp only[A4,])
     exact⟨(),E,sS,by simp[ble,A7,An]⟩
    .have I:(u.A1.length:Int) > 0:=by omega
     rw[Ce hz,C9]at E;rw[J E]
     (refine sV J1 λK z=>?_;refine⟨by omega,_,F6 hu,rfl,?_⟩;(try refine As I ?_);apply z;clear z K)
     refine A0.tt rfl<|sR J1 ?_;exact aR
   intro _ E;rw[De]at E;refine Ai B3 J1 λK4 W=>?_;refine A0.ss rfl ?_;simp only[A4,Ab,Ae];refine u2 _ _ ?_;clear W K4 u2 L
   (refine lV J1 λK z=>?_;refine cl ?_;apply z;clear z K;try simp only[A4,])
   exact⟨(),O E,sS,by simp[ble,A7,An]⟩
 intro _ E;rw[De,Aq0]at E;rw[E,Cr]at u1 |-;clear E;refine Ai B3 J1 λL u2=>?_;refine A0.ss rfl ?_;simp only[A4,Ab,Ae];refine u1 _ _ ?_;clear u2 L u1 K1;refine sC a4 J1 ?_;exact aR
theorem F3c(p:Prog)(hp:p.Le)(E:p.Sm):Ac Tryz.prog 19 [D7 p] (Ay (A8v p)):=F3y p hp λd I=>(E.decls.2 d I).vars.1
end Go.Abs
namespace Go.Abs
open Go Go.Proofs Go.Sort Tryz
abbrev B1s(ts:List Ty)(cs:List Ad):List D:=[.slice (Au ts),.slice (C7 cs)]
end Go.Abs
namespace Go.Abs
open Go
theorem E7a:∀(l:List A5)(k:Int),0<=k->Ec l k<=2000->k+l.length<=Ec l k
 |[],k,_,_=>by simp[Ec]
 |s::l,k,I,h=>by
  rw[Ec]at h |-;have hs:=(A5.Gi s k).1;split at h
  .rename_i E;rw[A9 E];have:=E7a l (s.count k) (by omega) h;simp only[C6];omega
  .omega
theorem Decl.G3i(d:Decl)(n:Int)(J:0<=n)(h:d.count n<=2000):n+1+d.sigs.length<=d.count n/\d.name.length<=100050:=by
 unfold Decl.count at h |-;generalize L:n+1+((d.name.length / 50:Nat):Int)+((d.recv.length / 50:Nat):Int)=m at h |-;obtain⟨a1,W⟩:=C0c d.A1 m;obtain⟨b1,Z⟩:=C0x d.fields (C8 d.A1 m);obtain⟨O,U⟩:=D7v d.sigs (D6 d.fields (C8 d.A1 m));obtain⟨e1,V⟩:=A2e d.vars (Ec d.sigs (D6 d.fields (C8 d.A1 m)));have E:=E7a d.sigs (D6 d.fields (C8 d.A1 m));generalize hz:Jc d.vars (Ec d.sigs (D6 d.fields (C8 d.A1 m)))=z at*;unfold Decl.Ta at h |-;obtain⟨f1,_⟩:=A5.Gi d.sig z;have M:=Ex.F9 d.body (d.sig.count z);split at h
 .rename_i I;rw[A9 I];have:=E (by omega) (by omega);omega
 .omega
def I4(l:List Decl):Nat:=(l.map λd=>1+d.sigs.length).sum
theorem E2r:∀(l:List Decl)(k:Int),0<=k->Im l k<=2000->k+I4 l<=Im l k/\∀d,d∈l->d.name.length<=100050
 |[],k,_,_=>by simp[Im,I4]
 |d::l,k,E,h=>by
  rw[Im]at h |-;have I:=(E2c l (d.count k)).1;split at h
  .rename_i L;rw[A9 L];have J:=Decl.G3i d k E (by omega);have M:=E2r l (d.count k) (by have:=(Decl.Gi d k).1;omega) h;have e:I4 (d::l)=1+d.sigs.length+I4 l:=by simp[I4]
   refine⟨by rw[e];omega,λx hx=>?_⟩;rcases Aw.1 hx with rfl|hx
   .exact J.2
   .exact M.2 x hx
  .omega
theorem D8a{p:Prog}(hp:p.count<=600):I4 p.decls<=600/\∀d,d∈p.decls->d.name.length<=100050:=by unfold Prog.count at hp;have E:=Ex.F9 p.main 0;have:=E2r p.decls (p.main.count 0) (by omega) (by omega);exact⟨by omega,this.2⟩
theorem D0y:∀l:List Decl,l.length<=I4 l
 |[]=>by simp
 |d::l=>by have:=D0y l;simp only[I4,Ck,Mi,C6]at this |-;omega
section
variable {p:Prog}
theorem H1q(O:Yq p){t:Ty}(h:Bt p [] t=none):t.args=[]/\∃d,d∈p.decls/\d.name=t.name:=by obtain⟨L,J,_⟩:=C4q h;obtain⟨d,E,U,M⟩:=A8n L;have I:=Qc E;rw[M,O.fo d I]at J;exact⟨Pa (by simpa using J.symm),d,I,(B1r E).2.1⟩
def A0n(p:Prog):List A3:=p.decls.flatMap λd=>d.sig.name::d.sigs.map (·.name)
theorem H0y(p:Prog):(A0n p).length=I4 p.decls:=by
 unfold A0n I4;rw[List.length_flatMap]
 congr 1
 refine J7 λd _=>?_;simp;omega
theorem G9y(M:Yq p){x:Ty}:∀s,s∈Dk p [] x->s.A1=[]/\s.name∈A0n p:=by
 intro s E;have key:∀{v:List A3} {y:A5},y.A1=[]/\y.name∈A0n p->(y.canon.subst v x.args).A1=[]/\(y.canon.subst v x.args).name∈A0n p:=λ{v y} h=>⟨by simp[A5.subst,A5.canon,Hp,h.1],h.2⟩;have U:Cm [] x=none:=by simp[Cm,Ez,Dq]
 unfold Dk at E;rw[U]at E;simp only[Nh,Ky,I6,Fy]at E;split at E
 .rename_i O;unfold H8 at E;rw[A9 O]at E;obtain⟨d,J,_⟩:=Qa (by decide) O;rw[J,E1]at E;unfold Xx Io at E;obtain⟨⟨y,i⟩,L,rfl⟩:=B1.1 E;have I:=Hh (Uv (Kc.1 L).1);exact key ⟨M.sigs d (Qc J) y I,At0.2 ⟨d,Qc J,Wf _ (B1.2 ⟨y,I,rfl⟩)⟩⟩
 .unfold Gt at E;obtain⟨⟨d,i⟩,L,rfl⟩:=B1.1 E;have I:d∈p.decls:=Hh (Uv (Kc.1 L).1);exact key ⟨M.sig d I,At0.2 ⟨d,I,by simp⟩⟩
open Classical in
noncomputable def Wt (p:Prog):List Ty:=(p.decls.map λd=>Ty.mk d.name [] 0).filter λt=>decide (Bt p [] t=none)
open Classical in
noncomputable def A6z (p:Prog):List Ad:=((Wt p).flatMap λt=>(A0n p).map λm=>(⟨t,m,[]⟩:Ad)).filter λc=>decide (Tw p c)
noncomputable def A4q (p:Prog):Aj:=⟨Wt p,A6z p,false⟩
theorem B6p{t:Ty}:t∈Wt p↔(∃d,d∈p.decls/\t=.mk d.name [] 0)/\Bt p [] t=none:=by unfold Wt;rw[Kc,B1,Da];exact and_congr_left λ_=>exists_congr λd=>and_congr_right λ_=>eq_comm
open Classical in
theorem B5q{c:Ad}:c∈A6z p↔(∃t m,t∈Wt p/\m∈A0n p/\c=⟨t,m,[]⟩)/\Tw p c:=by unfold A6z;rw[Kc,At0,Da];refine and_congr_left λ_=>⟨λ⟨t,ht,h⟩=>?_,λ⟨t,m,ht,E,e⟩=>⟨t,ht,B1.2 ⟨m,E,e.symm⟩⟩⟩;obtain⟨m,E,e⟩:=B1.1 h;exact⟨t,m,ht,E,e.symm⟩
theorem inP(M:Yq p){t:Ty}(h:Bt p [] t=none):D5 t (A4q p).types:=by
 obtain⟨L,d,J,I⟩:=H1q M h;have E:t.er=(Ty.mk d.name [] 0).er:=by rw[G9,G9,J2,F4,L,I]
 exact⟨_,B6p.2 ⟨⟨d,J,rfl⟩,B1w E h⟩,E⟩
theorem F4j(E:Yq p){c:Ad}(h:Tw p c):Hv c (A4q p).calls:=by obtain⟨u,O,e⟩:=inP E h.on;obtain⟨g,L,J,M,_⟩:=h.sig;obtain⟨f1,f2⟩:=G9y E g L;have ht:c.targs=[]:=Pa (by rw[<-M,f1];rfl);have I:Ba c ⟨u,c.name,[]⟩=0:=C0k e rfl (by rw[ht]);exact⟨_,B5q.2 ⟨⟨u,c.name,O,J ▸ f2,rfl⟩,D3x I h⟩,I⟩
theorem D1o(E:Typed p)(I:Yq p){vars:List Param}(M:∀f,f∈vars->Bt p [] f.type=none){y:Ex}{K:Ty}(O:Bw ⟨p,false,[],vars⟩ y=(K,none)):Lt p vars y (A4q p).types (A4q p).calls:=by
 refine⟨λk=>inP I ?_,λv vs k2 U x L=>⟨inP I (C4e E.right E.head M v x L),F4j I (D3f E.right E.head M O k2 U L)⟩⟩;rcases N5.1 O with⟨h,_⟩|⟨_,J,_⟩|⟨v,vs,x,_,_,h|h|⟨_,J,_⟩⟩
 .omega
 .exact J
 .omega
 .omega
 .exact J
theorem F7o(I:Typed p)(M:Yq p):Vp p (A4q p):=by
 have E:(A4q p).Gd p:=⟨λt ht=>(B6p.1 ht).2,λc J=>(B5q.1 J).2⟩;have a0:∀d,d∈p.decls->isName d.name=true:=λd L=>by have hr:=I.right;simp only[Prog.right,Bc,Dr]at hr;have h:=hr.1 d L;simp only[Decl.right,Bc]at h;exact h.1
 have O:∀t,t∈(A4q p).types->t.Ct:=λt ht=>by obtain⟨⟨d,L,rfl⟩,_⟩:=B6p.1 ht;rw[Ty.A3w];exact⟨C6d (a0 d L),by simp[F4]⟩
 obtain⟨t,ht⟩:=I.main;refine⟨I,E,⟨O,λc J=>?_⟩,λy Z=>?_,λx U f hf=>?_,λx U c J g hs=>?_⟩
 .obtain⟨⟨t,m,h1,h2,rfl⟩,h3⟩:=B5q.1 J;obtain⟨g,g1,g2,_⟩:=h3.sig;exact⟨by rw[<-g2];exact C6d (E0g I.right g g1),O t h1,by simp⟩
 .obtain⟨_,K,W⟩:=B1e (A6q I.right).2 ht y Z;exact D1o I M (by simp) W
 .exact inP M (C4u I.right I.head (E.types x U) hf)
 .obtain⟨g1,g2,g3,g4,g5⟩:=C6v (E.calls c J) hs;obtain⟨w1,w2⟩:=C8h I.right I.head (E.types x U) g1 g3 (E.calls c J).targs g5;refine⟨λt ht=>?_,inP M w1,λd L y Z=>?_⟩
  .obtain⟨q,V,rfl⟩:=B1.1 ht;exact inP M (w2 q V)
  .obtain⟨b1,b2,_,_,b3,t,b4,_⟩:=C1g I (E.types x U) (E.calls c J) hs L;obtain⟨_,K,W⟩:=B1e (C2q ((A6q I.right).1 d b1 b2) x c) b4 y Z;exact D1o I M b3 W
theorem D2h(p:Prog):(Wt p).length<=p.decls.length/\(A6z p).length<=p.decls.length*I4 p.decls:=by
 have E:(Wt p).length<=p.decls.length:=by unfold Wt;exact D3 (Am3 _ _) (by simp)
 refine⟨E,?_⟩;unfold A6z;refine D3 (Am3 _ _) ?_;have:∀l:List Ty,(l.flatMap λt=>(A0n p).map λm=>(⟨t,m,[]⟩:Ad)).length=l.length*(A0n p).length:=λl=>by
  induction l with
  |nil=>simp
  |cons a l I=>rw[Au5,Bz,I,Bn,C6,Nat.succ_mul,Nat.add_comm]
 rw[this,H0y];exact I9 _ E
theorem szP(hp:p.count<=600):SzR (A4q p):=by
 obtain⟨c1,c2⟩:=D8a hp;obtain⟨l1,l2⟩:=D2h p;have U:=D0y p.decls;have E:∀t,t∈Wt p->t.Sm/\t.Cb<=100054:=λt ht=>by obtain⟨⟨d,I,rfl⟩,_⟩:=B6p.1 ht;have:=c2 d I;refine⟨.mk _ _ _ (by unfold sm;omega) (by simp) (by simp),?_⟩;rw[Ty.Mw,J2,F4,Ty.C4];omega
 have O:=Prog.A6t p hp;have J:p.decls.length*I4 p.decls<=600*600:=Nat.mul_le_mul (by omega) c1;refine⟨λt ⟨u,L,e⟩=>⟨C2w e.symm (E u L).1,by rw[B7s e];exact D3 (E u L).2 (by decide)⟩,λc ⟨d,I,e⟩=>?_,by show(Wt p).length<=sm;unfold sm;omega,by show(A6z p).length<=sm;unfold sm;omega⟩;obtain⟨⟨t,m,V,h2,rfl⟩,W⟩:=B5q.1 I;obtain⟨g,Z,M,_⟩:=W.sig;have h4:m.length<=100050:=by have:=E0c O g Z;unfold A5.Na at this;rw[M]at this;exact this
 obtain⟨h5,h6⟩:=E t V;refine⟨E3f (Wg e) ⟨h5,by show m.length<=sm;unfold sm;omega,by simp,by simp⟩,?_⟩;rw[E2e e,C1v];show m.length+4+(t.Cb+Ty.C4 [])<=sm;rw[Ty.C4];unfold sm;omega
end
end Go.Abs
namespace Go.Abs
open Go Go.Proofs Tryz
theorem H0n{p:Prog}(hp:p.count<=600)(hg:Typed p)(Z:Yq p)(n:Int)(hn:(p.decls.length:Int)+p.decls.length*I4 p.decls<=n):G5 Tryz.prog 11 [D7 p,A8 n] B7o:=by
 have hz:=szP hp;refine(E2w hp (F7o hg Z) hz n).imp ?_;rintro z ⟨S,J,⟨E,rfl⟩|⟨E,W,rfl⟩⟩
 .exfalso;obtain⟨O,M⟩:=J.q.len;obtain⟨m1,m2⟩:=D2h p;have O:S.ts.length<=(Wt p).length:=O;have M:S.cs.length<=(A6z p).length:=M;unfold FS.full at E;have:((p.decls.length*I4 p.decls:Nat):Int)=(p.decls.length:Int)*I4 p.decls:=by simp
  omega
 .have U:=λt=>(Tj Cs S.ts).mem_iff (a:=t);have mC:=λt=>(Tj Ba S.cs).mem_iff (a:=t);obtain⟨O,M⟩:=J.q.len;refine⟨_,_,rfl,λt ht=>?_,λc V=>?_,?_,?_⟩
  .have I:=J.q.it t ((U t).1 ht);refine⟨(hz.ts t I).1,?_⟩;obtain⟨u,L,e⟩:=I;obtain⟨⟨d,W,rfl⟩,_⟩:=B6p.1 L;have:=Gk Ty.args e;rw[G9,G9,F4,F4,F4]at this;simpa using this
  .have I:=J.q.ic c ((mC c).1 V);refine⟨(hz.cs c I).1,?_,?_⟩
   .obtain⟨u,L,e⟩:=I;obtain⟨⟨t,m,_,_,rfl⟩,_⟩:=B5q.1 L;have:=(A0m e).2.2;simpa using this
   .obtain⟨u,L,e⟩:=J.q.on c ((mC c).1 V);exact⟨u,(U u).2 L,e⟩
  .rw[(Tj Cs S.ts).length_eq];exact D3 O hz.tl
  .rw[(Tj Ba S.cs).length_eq];exact D3 M hz.cl
end Go.Abs
namespace Go.Proofs.YtcmlfpcaeflleaaGreatDoor
open Go Go.ChangeShapes Go.WideShapes Go.ChangeAt Go.RowKit Go.Abs
theorem C5e{H:Type}{P:Program}{t0:TypeId}{ts:List TypeId}{d0:DataW H}{E:List (DataW H)}(h:(DataW.weightsEach P ([t0]++ts) ([d0]++E)).all (·<=reachBytes)=true):∀k,k∈d0.weights P t0->k<=reachBytes:=by simp only[Qp,Vt,DataW.weightsEach,Ar9,Bc,Dr,Da]at h;exact h.1
end Go.Proofs.YtcmlfpcaeflleaaGreatDoor
namespace Go.Abs
open Go Go.Proofs Tryz
theorem F0d{ts:List Ty}{x:Ty}(I:D5 x ts):(ts.any λt=>Jr t x)=true:=by obtain⟨u,E,e⟩:=I;exact List.any_eq_true.2 ⟨u,E,(P1 _ _).2 e.symm⟩
theorem G5z{l:List Decl}{j:Nat}{d:Decl}(h:l[j]?=some d):I4 (l.take (j+1))=I4 (l.take j)+d.sigs.length+1:=by rw[Ar5,h];simp[I4];omega
theorem G7d{l:List Decl}(j:Nat):I4 (l.take j)<=I4 l:=by have h:=Gk List.sum (Ak4 j (l.map λd=>1+d.sigs.length));rw[Ap1]at h;unfold I4;rw[List.map_take];omega
abbrev Ji:List Nat:=[0,1,2,3,4,5,6,7,8,20,29,53,58,78,83,104]
theorem H1c(p:Prog):Ac Tryz.prog 6 [D7 p] (Ay true):=by
 have L:=B6v;have hg:=B5v p;cases gb:Yz p with
 |false =>
  rw[gb,A6 (by simp)]at hg;refine cB func6 ?_;refine sR Ji<|sK λJ u1=>?_
  (refine sV Ji λK z=>?_;refine cc L ?_;refine cc hg ?_;apply z;clear z K)
  refine tI ?_;refine sC L Ji ?_;exact aR
 |true =>
 rw[gb,A9 rfl]at hg;obtain⟨hp,hr,a7⟩:=B1m gb;have a0:=Prog.V8 p hp;have O:=F3c p (Prog.Sk p hp) a0.sm;cases gp:A8v p with
 |false =>
  rw[gp]at O;refine cB func6 ?_;refine sR Ji<|sK λJ u1=>?_
  (refine sV Ji λK z=>?_;refine cc L ?_;refine cc hg ?_;refine cc O ?_;apply z;clear z K)
  refine tI ?_;refine sC L Ji ?_;exact aR
 |true =>
  rw[gp]at O;obtain⟨c9,_⟩:=D8a hp;have a':=D0y p.decls;obtain⟨N,hN⟩:∃N:Nat,N=p.decls.length+I4 p.decls:=⟨_,rfl⟩;have aa:N*N<=1200*1200:=Nat.mul_le_mul (by omega) (by omega);have a8:p.decls.length*I4 p.decls<=N*N:=Nat.mul_le_mul (by omega) (by omega);have a4:((N*N:Nat):Int)=(N:Int)*N:=by simp
  have a5:=H0n hp a7 (Yq.of gp) ((N:Int)+(N:Int)*N) (by
   have:((p.decls.length*I4 p.decls:Nat):Int)=(p.decls.length:Int)*I4 p.decls:=by simp
   omega)
  refine G5.one ?_
  (refine G5.L5 func6 rfl (by decide) (by rw[ntmps6];simp) ?_;rw[ntmps6])
  refine sR Ji<|sK λJ u1=>?_
  (refine sV Ji λK z=>?_;refine cc L ?_;refine cc hg ?_;refine cc O ?_;apply z;clear z K)
  refine kI u1 ?_;clear u1 J;refine sR Ji ?_;refine kR Ji λJ u1=>?_;refine A0.bb (A0.ii p.decls (X:=Unit) (λj _=>[(1,.box 1 0),(3,A8 ((p.decls.length+I4 (p.decls.take j):Nat):Int)),(4,A8 j)]) (λ_ _=>[(1,.cells ((An p).map .d))])
   (λ_ _=>True) () trivial (by simp[sle,Ax,Ag,I4]) (by simp[ble,A7,An]) ?_ ?_)
  rotate_left
  .intro j _ d hd I dp tk M _;have ad:=G5z hd;have ac:=G7d (l:=p.decls) (j+1);have e1:((p.decls.length+I4 (p.decls.take j):Nat):Int)+(d.sigs.length:Int)+1=((p.decls.length+I4 (p.decls.take (j+1)):Nat):Int):=by omega
   refine Ai M Ji λE u2=>?_;refine gI u2 ?_;clear u2 E;refine sK λE u2=>A0.bb ?_
   (refine lV Ji λK z=>?_;refine⟨by omega,_,Ev hd,rfl,?_⟩;(try refine As e1 ?_);refine⟨by unfold Az;omega,?_⟩;refine⟨by unfold Az;omega,?_⟩;apply z;clear z K;try simp only[A4,Ab])
   refine u2 _ _ ?_;clear u2 E
   (refine lV Ji λK z=>?_;refine cl ?_;apply z;clear z K;try simp only[A4,])
   exact⟨(),trivial,sS,by simp[ble,A7,An]⟩
  intro _ _;rw[Dm,<-hN];refine Ai B3 Ji λE u2=>?_;refine A0.ss rfl ?_;simp only[A4,Ab,Ae];refine u1 _ _ ?_;clear u2 E u1 J;refine A0.M0 [5,6] [] 6 _ rfl rfl (by decide +kernel) λK hK=>?_;simp only[Ia,Ig];refine ev ?_;refine⟨by unfold Az;omega,?_⟩
  (try refine ev ?_)
  refine⟨by unfold Az;omega,?_⟩
  (try refine ev ?_)
  refine⟨_,A0x rfl rfl rfl a5 B7o.closed,?_⟩;rintro r a9 ⟨⟨ts,cs,rfl,a1,a3,a6,ab⟩,rfl⟩;simp only[Ho,Kr,Hm,];refine ev ?_;refine hK _ _ ?_;clear hK K;have U:=λx (hx:D5 x ts)=>(F0d hx ▸ B7y ts cs x a6 (λt ht=>(a1 t ht).1):Ac Tryz.prog 20 [Ur ts cs,B6 x] (Ay true));refine kR Ji λJ u1=>?_;refine kI u1 ?_;clear u1 J;refine kR Ji λJ u1=>?_;refine A0.bb (A0.ii ts (X:=Unit) (λj _=>[(5,.box 5 0),(7,A8 j)]) (λ_ _=>[(5,.cells ((B1s ts cs).map .d))])
   (λ_ _=>True) () trivial sS sB ?_ ?_)
  rotate_left
  .intro j _ t ht I dp tk M _;have W:=(a1 t I).2;have hh:=U t ⟨t,I,rfl⟩;simp only[B6,W,X2]at hh;have V:decide ((0:Int)<((0:Nat):Int))=false:=by decide
   refine Ai M Ji λE u2=>?_;refine gI u2 ?_;clear u2 E;refine sK λE u2=>A0.bb ?_
   (refine sG Ji [] 15 [] λK z=>?_;refine ev ?_;refine⟨by omega,_,Dv ht,rfl,?_⟩;(try simp -implicitDefEqProofs only[EV,Nat.reduceAdd,Nat.reduceEqDiff,reduceCtorEq,Lq,I3,Rn,V,W,X2]);refine⟨by omega,_,Dv ht,rfl,?_⟩;(try simp -implicitDefEqProofs only[EV,Nat.reduceAdd,Nat.reduceEqDiff,reduceCtorEq,W,X2]);refine cc hh ?_;apply z;clear z K)
   refine A0.ff rfl (A0.kk (u2 _ _ ?_));clear u2 E;refine lT Ji ?_;exact⟨(),trivial,sS,by simp[ble,A7]⟩
  intro _ _;refine Ai B3 Ji λE u2=>?_;refine A0.ss rfl ?_;simp only[A4,Ab,Ae];refine u1 _ _ ?_;clear u2 E u1 J;refine kR Ji λJ u1=>?_;refine A0.bb (A0.ii cs (X:=Unit) (λj _=>[(5,.box 5 0),(8,A8 j)]) (λ_ _=>[(5,.cells ((B1s ts cs).map .d))])
   (λ_ _=>True) () trivial sS sB ?_ ?_)
  rotate_left
  .intro j _ c hc I dp tk M _;obtain⟨_,Z,a2⟩:=a3 c I;have hh:=U c.on a2;have V:decide ((0:Int)<((0:Nat):Int))=false:=by decide
   refine sK λE u2=>?_
   (refine sQ Ji λK z=>?_;simp -implicitDefEqProofs only[EV,Nat.reduceEqDiff,reduceCtorEq,P9,Rn,M,Er];apply z;clear z K)
   refine gI u2 ?_;clear u2 E;refine sK λE u2=>A0.bb ?_
   (refine sG Ji [] 16 [] λK z=>?_;refine ev ?_;refine⟨by omega,_,I0 hc,rfl,?_⟩;(try simp -implicitDefEqProofs only[EV,Nat.reduceAdd,Nat.reduceEqDiff,reduceCtorEq,Lq,I3,P9,Rn,A7a,V,Z,X2,Du]);refine⟨by omega,_,I0 hc,rfl,?_⟩;(try simp -implicitDefEqProofs only[EV,Nat.reduceAdd,Nat.reduceEqDiff,Nat.reduceLeDiff,reduceCtorEq,Z,X2,Du]);refine cc hh ?_;apply z;clear z K)
   refine A0.ff rfl (A0.kk (u2 _ _ ?_));clear u2 E;refine lT Ji ?_;exact⟨(),trivial,sS,by simp[ble,A7]⟩
  intro _ _;refine sK λE u2=>?_
  (refine sQ Ji λK z=>?_;simp -implicitDefEqProofs only[EV,Nat.reduceEqDiff,reduceCtorEq,P9,Rn,B3,Er];apply z;clear z K)
  refine A0.ss rfl ?_;simp only[A4,Ab,Ae];refine u1 _ _ ?_;clear u2 E u1 J;refine sR Ji ?_;exact A0.ret ⟨_,_,by rw[results6];rfl,rfl,rfl⟩
end Go.Abs
namespace Go.Proofs.YtcmlfpcaeflleaaGreatDoor
open Go Go.ChangeShapes Go.WideShapes Go.ChangeAt Go.RowKit Go.Abs
theorem F8w(os:Os)(E:os.Started)(H:Type)(enc:TypeId × Value->H) :
  ReturnsInHanded {} Tryz.checked os 6 .any (λw args=>(Rows.instancePlainSpec.pre enc Tryz.prog Tryz.f6 Rows.instancePlainRow.domain false w args/\laidMetH Tryz.prog Rows.instancePlainRow.laid w)/\sizedMet enc Tryz.prog Tryz.f6 (OpenSpec.ofChange Rows.instancePlainSpec) false w args)
   (Rows.instancePlainSpec.post enc Tryz.prog Tryz.f6 false true false false):=by
 refine returnsInHanded_of_change_and (C:=Tryz.checked) (X:=λw _=>laidMetH Tryz.prog Rows.instancePlainRow.laid w) (λ_ _ _ hh h=>laidMetH.of_heap hh h) own E (by kernel_rfl) Tryz.func6
  (ChangeSpec.witness_at (enc:=enc) (C:=Tryz.checked) (os:=os) (X:=λw _=>laidMetH Tryz.prog Rows.instancePlainRow.laid w) false (B0f os) #[.agg #[.slice none 0 0,.int .i64 0,.string ⟨#[]⟩,.string ⟨#[]⟩,.slice none 0 0,.int .i64 0,.slice none 0 0,.slice none 0 0,.int .i64 0]] 8 rfl (by kernel_rfl) (by kernel_rfl) (by kernel_rfl) (by kernel_rfl) (by kernel_rfl) (B5n os _)) ?_
 intro W base args ds gs M J hW a1 U hL _;have I:∀(j:Nat) t v,Tryz.f6.params[j]?=some t->args[j]?=some v->Value.okWide Tryz.prog W .any base t v:=J;have a0:=hW;obtain⟨p,q,O,hV,rfl,a3,a2⟩:=hW;have hA:DataW.TrodAll enc Tryz.prog W 0 (λ_=>true) true Tryz.f6.params.toList args.toList ds p:=O;rw[Tryz.params6]at hA I;obtain⟨v0,d0,rfl,rfl,Z⟩:=trodAll_one hA;obtain⟨rfl,rfl⟩:=trodVars_none hV;have w0:=C5e (t0:=30) U;obtain⟨x0,r0⟩:=B6k (I 0 30 v0 rfl rfl) Z w0 A1c;obtain⟨_,_,V⟩:=B2t hL;refine(B4q (vs:=[v0]) (H1c x0) (.cons r0 .nil) V).mono λe W2 ⟨he,L⟩=>?_;subst he;exact⟨_,rfl,_,_,_,[],_,[],a0,trodAll_mk1 (shut_bool Tryz.underlying4 _),trodAll_mk1 (Below.trod laidOut (by kernel_rfl) (of_decide_eq_true (by kernel_rfl)) Z L (A4c Z)),rfl,L.frame _,λh=>by cases h⟩
theorem k0:Tryz.pinned.checked.prog.funcNamed Rows.instancePlainRow.func=some 6:=by kernel_rfl
theorem F5u:(Rows.instancePlainRow.inPlace ==Tryz.prog.inPlace 6)=true:=by kernel_rfl
theorem E9m:(Rows.instancePlainRow.unfollowed ==Tryz.prog.unfollowed 6)=true:=by kernel_rfl
theorem G9o:(Rows.instancePlainRow.recurses ==Tryz.prog.recurses 6)=true:=by kernel_rfl
theorem F4o:(Rows.instancePlainRow.named ==Tryz.prog.varsNamed 6)=true:=by kernel_rfl
theorem k1:joinedFacts Tryz.prog 6 Tryz.f6 Rows.instancePlainSpec Rows.instancePlainRow=true:=by unfold joinedFacts;rw[F5u,E9m,G9o,F4o,laidOut,B4m,B5e,B4f,B3b,B4o];kernel_rfl
theorem F5m:Rows.instancePlainRow.wfByText (OpenSpec.ofChange Rows.instancePlainSpec)=true:=by kernel_rfl
theorem G7p:true=Tryz.prog.looks []:=by kernel_rfl
theorem G9g:false=Rows.instancePlainRow.goesBy Tryz.prog:=B6n rfl
theorem k2:Tryz.f6.isInstance Tryz.pinned.checked.prog Rows.instancePlainRow.origin Rows.instancePlainRow.targs:=of_decide_eq_true (by kernel_rfl)
theorem k3:Tryz.f6.isWrapper Tryz.pinned.checked.prog Rows.instancePlainRow.wrapper Rows.instancePlainRow.mainSum:=by unfold Func.isWrapper;first| (rw[A9 (by decide +kernel)];kernel_rfl)| (rw[A6 (by decide +kernel)];exact⟨rfl,rfl⟩)
theorem k4:Rows.InstancePlainSaid :=
 OpenClaim.holds_of_wide 6 Tryz.f6 rfl rfl rfl rfl rfl rfl rfl ⟨rfl,rfl,rfl,rfl,rfl⟩ rfl rfl rfl rfl rfl k0 Tryz.func6 k1
  k2 k3
  (λos E H enc _=>F8w os E H enc)
theorem instancePlain_holds:Rows.InstancePlainCardSaid :=
 Claim7.holds_tied_plain_at .later [] [.data,.data,.data] true (true, "c42edb424f26ca866ca1ec54dbf62a3300d32448bd7f28dd09af8a3762dfa1c8") true
  k4 (λ_ h=>by cases h) F5m (λ_ h=>by cases h) instancePlain_row_tie rfl ⟨rfl,rfl⟩ (by kernel_rfl) rfl
  (λf fn J E=>by
   obtain rfl:f=6:=Pb ((show Tryz.prog.funcNamed "castings/castingslaw21.InstancePlain" =some 6 by kernel_rfl).symm.trans J) |>.symm
   obtain rfl:fn=Tryz.f6:=(Pb (Tryz.func6.symm.trans E)).symm;exact⟨G7p,λj t ht=>by
    rw[Tryz.params6]at ht;have I:t∈[30]:=Br (i:=j) (by simpa using ht);simp only[Aw,Ej,Eh]at I;rcases I with rfl
    .exact(show Tryz.prog.wantsStandIn 30=false by kernel_rfl)⟩)
  G9g
end Go.Proofs.YtcmlfpcaeflleaaGreatDoor
