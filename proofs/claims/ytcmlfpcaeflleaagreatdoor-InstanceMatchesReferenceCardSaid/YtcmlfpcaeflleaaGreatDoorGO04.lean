/- instance.finder.needs -/
import Derived.Test.YtcmlfpcaeflleaaGreatDoorGU06
import Derived.Test.YtcmlfpcaeflleaaGreatDoorGShelfM2
set_option linter.all false
set_option maxHeartbeats 4000000
set_option maxRecDepth 100000
namespace Go.Abs
open Go Go.Proofs Tryz
def Qj(ti:Ex->Option Ty)(s:List Ty × List Ad)(x:Ex):List Ty × List Ad :=
 if x.kind=3\/x.kind=5 then(Co Ty.Av s.1 x.type,s.2)
 else if x.kind=2 then(match ti x with
  |some t=>(Co Ty.Av s.1 t,Co Ad.Av s.2 ⟨t,x.name,x.targs⟩)
  |none=>s)
 else s
def Lh(ti:Ex->Option Ty)(s:List Ty × List Ad)(l:List Ex):List Ty × List Ad:=l.foldl (Qj ti) s
structure B6z(p:Prog)(vars:List Param)(ti:Ex->Option Ty)(x:Ex):Prop where
 ty:x.kind=3\/x.kind=5->x.type.Sm/\x.type.Cb<=sm
 call:x.kind=2->∃k0 t o,x.kids[0]?=some k0/\Ac prog 81 [.Ah (Ep p) 0,Ay false,.d (.slice []),.d (.slice (B9 vars)),D0 k0] (.tuple [B6 t,.d o]) /\
  match ti x with
  |some u=>o=.Jw/\u=t/\t.Sm/\t.Cb<=sm/\Ad.Sm ⟨t,x.name,x.targs⟩/\Ad.Cb ⟨t,x.name,x.targs⟩<=sm
  |none=>∃ty d,o=.iface ty d
def Ad.M6(c:Ad):c.Av.length+2<=c.Cb:=Ty.M6 _
structure STx(s:List Ty × List Ad):Prop where
 ts:∀t,t∈s.1->t.Av.length<=sm
 cs:∀c,c∈s.2->c.Av.length<=sm
def G6m{p:Prog}{vars:List Param}{ti:Ex->Option Ty}{x:Ex}(h:B6z p vars ti x){s:List Ty × List Ad}(hs:STx s):STx (Qj ti s x):=by
 unfold Qj;split
 .rename_i E;exact⟨λt ht=>(A1e ht).elim (λe=>by rw[e];have:=Ty.M6 x.type;have:=(h.ty E).2;omega) (hs.ts t),hs.cs⟩
 split
 .rename_i E;obtain⟨k0,t,o,_,_,J⟩:=h.call E;cases I:ti x with
  |none=>exact hs
  |some u =>rw[I]at J;obtain⟨_,rfl,_,M,_,O⟩:=J;exact⟨λt ht=>(A1e ht).elim (λe=>by rw[e];have:=Ty.M6 u;omega) (hs.ts t),λc L=>(A1e L).elim (λe=>by rw[e];have:=Ad.M6 ⟨u,x.name,x.targs⟩;omega) (hs.cs c)⟩
 .exact hs
def H0g{p:Prog}{vars:List Param}{ti:Ex->Option Ty}{l:List Ex}(h:∀x,x∈l->B6z p vars ti x){s:List Ty × List Ad}(hs:STx s):STx (Lh ti s l):=by
 unfold Lh
 induction l generalizing s with
 |nil=>exact hs
 |cons x l I=>exact I (λy E=>h y (by simp[E])) (G6m (h x (by simp)) hs)
abbrev N0:List Nat:=[0,1,2,3,4,5,6,7,8,9,11,12,14,15,23,39,1000000,1000001,1000002,1000003,2000003,2000005,3000000,3000001,3000002,3000003]
def E1p(p:Prog)(b:Int)(ds:List (A3 × A3))(e:Ex)(vars:List Param)(ti:Ex->Option Ty)(hx:∀x,x∈Bg e->B6z p vars ti x)(s:List Ty × List Ad)(hs:STx s) :
  Bj prog 32 [.box 1000000 0,D0 e,.d (.slice (B9 vars))] (Ci p b s.1 s.2 ds) (.tuple []) (Ci p b (Lh ti s (Bg e)).1 (Lh ti s (Bg e)).2 ds):=by
 have a2:Dj prog 141=true:=D3k.2.2.2.2.2;have hA:=F8v e;have V:Kn (λ_=>true) 0 (Bg e)=some (Bg e).length:=by simp[Kn,Li]
 refine bB func32 ?_;refine sR N0 ?_;refine sC hA N0 ?_;refine A0.bb (A0.rangeFunc (caps:=[.Ah (Bu e) 0]) (caps':=[.Ah (Bu e) 0]) (f:=139) (r:=.tuple []) (N:=(Bg e).length) (xs:=λi=>D0 (((Bg e)[i]?).getD e)) (go:=λ_=>true) (jump:=.ret) (ks:=[2000003,2000005,3000000,3000001,3000002,3000003]) (slR:=[(3,.box 2000003 0),(5,.box 2000005 0)])
  (mb:=λst=>match st with|some j=>(2000003,.cells [.box 3000000 0])::(2000005,.cells [.d (.slice (B9 vars))])::Kh 3000000 3000001 3000002 3000003 p b (Lh ti s ((Bg e).take j)).1 (Lh ti s ((Bg e).take j)).2 ds|none=>[]) (st:=Kn (λ_=>true) 0 (Bg e)) ⟨⟨_,rfl⟩,by decide,by decide,rfl,λst=>by cases st <;> rfl,by decide,λ_=>rfl,?_⟩ (λst=>by cases st <;> simp) rfl rfl ?_ ⟨.inr (.inl rfl),.inr (.inl rfl),trivial⟩ ⟨rfl,rfl,rfl,rfl,rfl,rfl,trivial⟩ ?_ ?_)
 .intro j O aa l;have a8:=B8 O;have hn:=hx (Bg e)[j] (Fa O);have J:=H0g (l:=(Bg e).take j) (λx h=>hx x (Hh h)) hs;have E:Lh ti s ((Bg e).take (j+1))=Qj ti (Lh ti s ((Bg e).take j)) (Bg e)[j]:=by rw[Yk O,Lh,List.foldl_append];rfl
  obtain⟨tl,cl,hL⟩:∃tl cl,Lh ti s ((Bg e).take j)=(tl,cl):=⟨_,_,rfl⟩;rw[hL]at J E;generalize(Bg e)[j]=x at*;simp only[a8,E1];have U:=λ(t:Ty)=>C1o p b cl ds [t];simp only[Ps,forall_eq,Jp,Q3,List.length_singleton,A7z,X2,Be]at U
  (refine lV N0 λK z=>?_;apply z;clear z K;try simp only[A4,])
  refine⟨rfl,?_⟩;refine A0.bb<|Aq hL N0 ?_;refine A0.bb<|sK λK2 u2=>?_;by_cases k3:x.kind=3
  .have d3:decide (x.kind=3)=true:=Bo k3;have W:=hn.ty (.inl k3);refine Aq d3 N0 ?_;refine A0.tt rfl (A0.kk (u2 _ _ ?_));clear u2 K2;refine A0.tt rfl ?_
   (refine A0.Qs N0 [800022] (by decide +kernel) λK z=>?_;refine ev ?_;refine⟨_,_,_,Kd (λk=>k - 2000000) (Kh 3000000 3000001 3000002 3000003 p b tl cl ds) (Kh 3000000 3000001 3000002 3000003 p b (Co Ty.Av tl x.type) cl ds) rfl ⟨rfl,rfl,rfl,rfl,trivial⟩ (by simp) (by simp) rfl rfl (U x.type W (by decide) tl J.ts) rfl rfl rfl,?_⟩;(try simp -implicitDefEqProofs only[EV,Nat.reduceEqDiff,reduceCtorEq,Gu,Ht]);apply z;clear z K;try simp only[Ab])
   exact⟨rfl,by simp[ble,A7,E,Qj,k3]⟩
  by_cases Z:x.kind=5
  .have d5:decide (x.kind=5)=true:=Bo Z;have W:=hn.ty (.inr Z);refine Aq k3 N0 ?_;refine A0.ff rfl ?_
   (refine lQ N0 λK z=>?_;refine As d5 ?_;apply z;clear z K;try simp only[A4,])
   refine u2 _ _ ?_;clear u2 K2;refine A0.tt rfl ?_
   (refine A0.Qs N0 [800022] (by decide +kernel) λK z=>?_;refine ev ?_;refine⟨_,_,_,Kd (λk=>k - 2000000) (Kh 3000000 3000001 3000002 3000003 p b tl cl ds) (Kh 3000000 3000001 3000002 3000003 p b (Co Ty.Av tl x.type) cl ds) rfl ⟨rfl,rfl,rfl,rfl,trivial⟩ (by simp) (by simp) rfl rfl (U x.type W (by decide) tl J.ts) rfl rfl rfl,?_⟩;(try simp -implicitDefEqProofs only[EV,Nat.reduceEqDiff,reduceCtorEq,Gu,Ht]);apply z;clear z K;try simp only[Ab])
   exact⟨rfl,by simp[ble,A7,E,Qj,Z]⟩
  refine Aq k3 N0 ?_;refine A0.ff rfl ?_
  (refine lQ N0 λK z=>?_;refine As Z ?_;apply z;clear z K;try simp only[A4,])
  refine u2 _ _ ?_;clear u2 K2;refine A0.ff rfl ?_;by_cases k2:x.kind=2
  .have d2:decide (x.kind=2)=true:=Bo k2;obtain⟨k0,t,o,a6,a0,hm⟩:=hn.call k2;refine Aq d2 N0 ?_;refine A0.tt rfl ?_
   (refine sG N0 [] 15 [⟨[],[],[7],[7]⟩,⟨[],[],[7],[7]⟩,⟨[],[],[7],[7]⟩,⟨[],[],[7],[7]⟩,⟨[],[],[7],[7]⟩,⟨[],[],[7],[7]⟩,⟨[],[],[7],[7]⟩,⟨[],[],[7],[7]⟩,⟨[],[],[7],[7]⟩,⟨[],[],[7],[7]⟩,⟨[],[],[7],[7]⟩,⟨[],[],[7],[7]⟩,⟨[],[],[7],[7]⟩,⟨[7],[7],[],[]⟩,⟨[7],[],[],[]⟩] λK z=>?_;refine ev ?_;refine cj (Dn a6) ?_;refine cc a0 ?_;apply z;clear z K)
   cases M:ti x with
   |none =>rw[M]at hm;obtain⟨ty,d,rfl⟩:=hm;refine Aq a2 N0 ?_;refine A0.ff rfl (A0.kk ⟨rfl,?_⟩);simp[ble,A7,E,Qj,k2,M]
   |some u =>
    rw[M]at hm;obtain⟨rfl,rfl,ht,a7,hc,a5⟩:=hm;have a':=We u ht;have a1:=B8u id [] [] x.targs hc.targs.1 λt ht=>by have:=A1v [] [] (by simp) t (hc.targs.2 t ht);rw[A7i]at this;exact this
    rw[List.map_id]at a1;have L:=G7v ⟨u,x.name,x.targs⟩ hc.targs.1 a5;have I:=F3g ⟨u,x.name,x.targs⟩ cl;have a4:=C1e (Ad.Av ⟨u,x.name,x.targs⟩) (by have:=Ad.M6 ⟨u,x.name,x.targs⟩;unfold sm lim at*;omega);have a3:=F6h J.cs;simp only[U3]at I L;refine Aq a2 N0 ?_;refine A0.tt rfl ?_
    (refine sG N0 [] 9 [⟨[],[],[9],[9]⟩,⟨[],[],[9],[9]⟩,⟨[],[],[9],[9]⟩,⟨[],[],[9],[9]⟩,⟨[],[],[9],[9]⟩,⟨[],[],[9],[9]⟩,⟨[],[],[9],[9]⟩,⟨[],[],[9],[9]⟩,⟨[9],[9],[],[]⟩] λK z=>?_;refine ev ?_;refine cc a' ?_;refine cc a1 ?_;apply z;clear z K)
    (refine A0.Ef N0 [800051] (by decide +kernel) λK z=>?_;refine ev ?_;refine⟨_,_,_,Kd (λk=>k - 2000000) (Kh 3000000 3000001 3000002 3000003 p b tl cl ds) (Kh 3000000 3000001 3000002 3000003 p b (Co Ty.Av tl u) cl ds) rfl ⟨rfl,rfl,rfl,rfl,trivial⟩ (by simp) (by simp) rfl rfl (U u ⟨ht,a7⟩ (by decide) tl J.ts) rfl rfl rfl,?_⟩;(try simp -implicitDefEqProofs only[EV,Nat.reduceEqDiff,reduceCtorEq,Gu,Ht]);apply z;clear z K)
    (refine lG N0 [] 7 [] λK z=>?_;refine ev ?_;refine⟨_,.inl ⟨_,rfl,L,rfl⟩,?_⟩;(try refine As I ?_);refine⟨a3,a4,?_⟩;(try refine As I ?_);apply z;clear z K;try simp only[Ab])
    exact⟨rfl,by simp[ble,A7,E,Qj,k2,M]⟩
  .refine Aq k2 N0 ?_;refine A0.ff rfl (A0.kk ⟨rfl,?_⟩);simp[ble,A7,E,Qj,k3,Z,k2]
 .intro Y hP hN a9 hg;refine F9f (λ_=>true) e Y ⟨hP,by rw[hN];omega,λi x hx=>?_⟩;rw[a9,hg];simp[hx]
 .intro j O _;rw[V]at O;obtain rfl:=Pb O;simp only[Ab,Dm];refine⟨_,by rw[results32];rfl,.inr rfl,?_⟩;exact⟨rfl,rfl,rfl,rfl,trivial⟩
 .intro O;rw[V]at O;cases O
def TKa:Cu prog 145=some true:=by kernel_rfl
def TKs:Bm prog 145=some 2:=by kernel_rfl
def TKk:P6 prog 145=true:=by kernel_rfl
abbrev Yf(p:Prog)(b:Int)(x:Ty)(more:Bool)(ts:List Ty)(cs:List Ad)(ds:List (A3 × A3)):Aa:=(1500001,.cells [.box 1000000 0])::(1500003,.cells [.d (.bool more)])::(1500006,.cells (Jk x))::Ci p b ts cs ds
abbrev C5t:List Nat:=[0,1,2,3,4,17,1000000,1000001,1000002,1000003,1500001,1500003,1500006]
def F4b(p:Prog)(b:Int)(x:Ty)(more:Bool)(ts:List Ty)(cs:List Ad)(ds:List (A3 × A3))(a:A3)(U:a.length<=sm)(M:∀k,k∈ds->k.1.length<=sm/\k.2.length<=sm)(V:ts.length<=sm)(Z:cs.length<=sm)
  (h:(a,[])∈ds\/b<(ts.length:Int)+cs.length) :
  Bj prog 83 [.agg [.d (.str a),.d (.str [])],.B0 85 [.box 1500001 0,.box 1500006 0],.box 1500001 0,.box 1500003 0] (Yf p b x more ts cs ds) (.tuple []) (Yf p b x more ts cs ds):=by
 have I:Et prog 145 (.agg [.str a,.str []]):=B6o B2e a [] (D3 U (by decide)) (by simp);have L:=B7w M;have O:=B6j p b ts cs ds V Z;have E:=B9x a [] ds;refine bB func83 ?_;refine sR C5t ?_;by_cases J:(a,[])∈ds
 .rw[Bo J]at E
  (refine sG C5t [800015] 5 [] λK z=>?_;simp -implicitDefEqProofs only[EV,Nat.reduceAdd,Nat.reduceEqDiff,reduceCtorEq,Yc,A1i,Xz,E,TKa,TKs,TKk];refine⟨L,I,?_⟩;apply z;clear z K)
  refine A0.ff rfl (A0.kk ?_);exact⟨_,by rw[results83];rfl,.inr rfl,⟨rfl,rfl,rfl,rfl,rfl,rfl,rfl,trivial⟩⟩
 .rw[Ce J]at E;have W:=h.resolve_left J;rw[Bo W]at O
  (refine sG C5t [800015] 5 [] λK z=>?_;simp -implicitDefEqProofs only[EV,Nat.reduceAdd,Nat.reduceEqDiff,Nat.reduceBEq,reduceCtorEq,Yc,A1i,Xz,E,TKa,TKs,TKk,];refine⟨L,I,?_⟩;refine⟨_,_,_,Kd id (Ci p b ts cs ds) (Ci p b ts cs ds) rfl ⟨rfl,rfl,rfl,rfl,trivial⟩ (by simp) (by simp) rfl rfl O rfl rfl rfl,?_⟩;(try simp -implicitDefEqProofs only[EV,Nat.reduceEqDiff,reduceCtorEq,Gu,Ht]);apply z;clear z K)
  refine A0.ff rfl (A0.kk ?_);exact⟨_,by rw[results83];rfl,.inr rfl,⟨rfl,rfl,rfl,rfl,rfl,rfl,rfl,trivial⟩⟩
def Ki(ts:List Ty)(l:List Param):List Ty:=l.foldl (λa f=>Co Ty.Av a f.type) ts
def C3y{l:List Param}(I:∀f,f∈l->f.type.Sm/\f.type.Cb<=sm){ts:List Ty}(E:∀t,t∈ts->t.Av.length<=sm):∀t,t∈Ki ts l->t.Av.length<=sm:=by
 unfold Ki
 induction l generalizing ts with
 |nil=>exact E
 |cons x l L =>exact L (λf J=>I f (by simp[J])) λt ht=>(A1e ht).elim (λh=>by have:=Ty.M6 x.type;have:=(I x (by simp)).2;rw[h];omega) (E t)
abbrev A8e:List Nat:=[0,1,2,5,15,16,17,18,1000000,1000001,1000002,1000003,1500001,1500006]
def G6s(p:Prog)(h:p.Sm)(b:Int)(x:Ty)(hx:x.Sm)(ts:List Ty)(O:∀t,t∈ts->t.Av.length<=sm)(cs:List Ad)(ds:List (A3 × A3))(W:(Bh p x).length<=sm)(V:∀f,f∈Bh p x->f.type.Sm/\f.type.Cb<=sm) :
  Bj prog 85 [.box 1500001 0,.box 1500006 0] ((1500001,.cells [.box 1000000 0])::(1500006,.cells (Jk x))::Ci p b ts cs ds) (.tuple [])
   ((1500001,.cells [.box 1000000 0])::(1500006,.cells (Jk x))::Ci p b (Ki ts (Bh p x)) cs ds):=by
 have hF:=E3q p h x hx;generalize Bh p x=l at*;refine bB func85 ?_
 (refine sG A8e [] 10 [] λK z=>?_;refine ev ?_;refine cc hF ?_;apply z;clear z K)
 refine sR A8e ?_;refine A0.bb (A0.ii l (X:=Unit) (λj _=>[(0,.box 1500001 0),(1,.box 1500006 0),(15,.d (.slice (B9 l))),(16,A8 l.length),(17,A8 j)]) (λj _=>(1500001,.cells [.box 1000000 0])::(1500006,.cells (Jk x))::Ci p b (Ki ts (l.take j)) cs ds)
  (λ_ _=>True) () trivial sS (by simp[ble,A7,Ki]) ?_ ?_)
 .intro _ _;rw[Dm]
  (refine sQ A8e λK z=>?_;simp -implicitDefEqProofs only[EV,Nat.reduceEqDiff,reduceCtorEq,B3,Ci,Kh];apply z;clear z K)
  refine A0.stop rfl ?_;simp only[A4,Ab,Ae];exact⟨_,by rw[results85];rfl,.inr rfl,by simp[ble,A7,]⟩
 .intro j _ y Z E dp tk J _;have U:=C3y (l:=l.take j) (λf L=>V f (Hh L)) O;have I:=C1o p b cs ds [y.type] (by simpa using V y E) (by simp[sm]) (Ki ts (l.take j)) U;simp only[Jp,Q3,A7z,X2,Be]at I;have M:Ki ts (l.take (j+1))=Co Ty.Av (Ki ts (l.take j)) y.type:=by rw[tk];simp[Ki,List.foldl_append]
  rw[M];generalize Ki ts (l.take j)=T at*
  (refine sQ A8e λK z=>?_;simp -implicitDefEqProofs only[EV,Nat.reduceEqDiff,reduceCtorEq,J,Ci,Kh];apply z;clear z K)
  refine A0.Fk rfl<|sK λK1 u1=>A0.bb ?_
  (refine sV A8e λK z=>?_;refine ci (E9 Z) ?_;apply z;clear z K)
  (refine A0.Qs A8e [800025] (by decide +kernel) λK z=>?_;refine ev ?_;refine⟨_,_,_,Kd id (Ci p b T cs ds) (Ci p b (Co Ty.Av T y.type) cs ds) rfl ⟨rfl,rfl,rfl,rfl,trivial⟩ (by simp) (by simp) rfl rfl I rfl rfl rfl,?_⟩;(try simp -implicitDefEqProofs only[EV,Nat.reduceEqDiff,reduceCtorEq,Ci,Kh,Gu,Ht]);apply z;clear z K;try simp only[A4,Ab])
  refine u1 _ _ ?_;clear u1 K1;refine lT A8e ?_;exact⟨(),trivial,sS,by simp[ble,A7,]⟩
abbrev B3h:List Nat:=[0,1,2,3,4,17,1000000,1000001,1000002,1000003,1500001,1500003,1500006]
def F4e(p:Prog)(h:p.Sm)(b:Int)(x:Ty)(hx:x.Sm)(more:Bool)(ts:List Ty)(W:∀t,t∈ts->t.Av.length<=sm)(cs:List Ad)(ds:List (A3 × A3))(a:A3)(ha:a.length<=sm)(V:∀k,k∈ds->k.1.length<=sm/\k.2.length<=sm)(h1:ts.length<=sm)(h2:cs.length<=sm)
  (M:(Bh p x).length<=sm)(hf:∀f,f∈Bh p x->f.type.Sm/\f.type.Cb<=sm)(U:(a,[]) ∉ds)(hb:¬b<(ts.length:Int)+cs.length) :
  Bj prog 83 [.agg [.d (.str a),.d (.str [])],.B0 85 [.box 1500001 0,.box 1500006 0],.box 1500001 0,.box 1500003 0] (Yf p b x more ts cs ds) (.tuple []) (Yf p b x true (Ki ts (Bh p x)) cs (Co id ds (a,[]))):=by
 have E:Et prog 145 (.agg [.str a,.str []]):=B6o B2e a [] (D3 ha (by decide)) (by simp);have I:=B7w V;have Z:=B6j p b ts cs ds h1 h2;have J:=B9x a [] ds;have L:=E5q a [] ds;have O:=G6s p h b x hx ts W cs (Co id ds (a,[])) M hf;rw[Ce U]at J;rw[Ce hb]at Z;refine bB func83 ?_;refine sR B3h ?_
 (refine sG B3h [800015] 5 [] λK z=>?_;simp -implicitDefEqProofs only[EV,Nat.reduceAdd,Nat.reduceEqDiff,Nat.reduceBEq,reduceCtorEq,Yc,A1i,Xz,J,TKa,TKs,TKk,];refine⟨I,E,?_⟩;refine⟨_,_,_,Kd id (Ci p b ts cs ds) (Ci p b ts cs ds) rfl ⟨rfl,rfl,rfl,rfl,trivial⟩ (by simp) (by simp) rfl rfl Z rfl rfl rfl,?_⟩;(try simp -implicitDefEqProofs only[EV,Nat.reduceEqDiff,reduceCtorEq,Gu,Ht]);apply z;clear z K)
 refine A0.tt rfl ?_
 (refine sG B3h [] 5 [] λK z=>?_;simp -implicitDefEqProofs only[EV,Nat.reduceAdd,Nat.reduceEqDiff,reduceCtorEq,Yc,A1i,Xz,L,TKa,TKs,TKk];refine⟨I,E,?_⟩;apply z;clear z K)
 refine sR B3h ?_
 (refine A0.Qs B3h [800024] (by decide +kernel) λK z=>?_;refine ev ?_;refine⟨_,_,_,Kd id ((1500001,.cells [.box 1000000 0])::(1500006,.cells (Jk x))::Ci p b ts cs (Co id ds (a,[]))) ((1500001,.cells [.box 1000000 0])::(1500006,.cells (Jk x))::Ci p b (Ki ts (Bh p x)) cs (Co id ds (a,[]))) rfl ⟨rfl,rfl,rfl,rfl,rfl,rfl,trivial⟩ (by simp) (by simp) rfl rfl O rfl rfl rfl,?_⟩;(try simp -implicitDefEqProofs only[EV,Nat.reduceEqDiff,reduceCtorEq,Gu,Ht]);apply z;clear z K;try simp only[A4,Ab,Ae])
 exact⟨_,by rw[results83];rfl,.inr rfl,⟨rfl,rfl,rfl,rfl,rfl,rfl,rfl,trivial⟩⟩
def Bp.toP{P:Program}{o:Oper}{ρ:Hb}{bx bx':Aa}{r:SV}(h:Bp P o ρ bx r bx' []):OpP P o ρ bx λJ L=>J=r/\L=bx':=by intro C S w β a I E;refine Oper.B2g (h C S w β a I E) ?_;rintro M w' ⟨v,S',β',q⟩;exact⟨r,bx',v,S',β',⟨rfl,rfl⟩,q⟩
def E2g{ρ:Shelf.Ren}(L:SlLaysW.n5 prog ρ)(hE:Enters prog (ρ.f 5))(kvs:List (D × D)) :
  Bj prog (ρ.f 5) [.mp 1000000] [(1000000,.map kvs)] (.d (.map kvs)) [(1000000,.map kvs)]:=by
 refine⟨hE,λC β vs V hv=>?_⟩;obtain⟨v,I,U⟩:=hv.get (j:=0) rfl;have hl:=hv.1;have O:vs=[v]:=by
  match vs,hl with
  |[u],_=>simp at I;rw[I]
 subst O;obtain⟨b,es,E,hb,hh,hm,hr⟩:=V.box 1000000 (.map kvs) (by simp);cases U with
 |mp _ b' J =>
  rw[hb]at J;cases J;refine(AnyW.maps_Clone L b es E C.w0 hh).mono ?_;rintro e w' ⟨rfl,rfl⟩;obtain⟨i1,Z⟩:=V.grow (S':=λx=>C.S0 x\/x=C.w0.heap.size) (w':=C.w0.alloc (.map es E)) (λ_ h=>.inl h) (λx hx=>hx.imp id λh=>by omega) (λx hx=>by
   rcases hx with hx|hx
   .have:=V.Bf x hx;simp[-World.alloc_eq,World.alloc];omega
   .simp[-World.alloc_eq,World.alloc];omega) (λx hx=>RowKit.Below.heap_alloc _ _ x hx) rfl rfl rfl (by simp[-World.alloc_eq,World.alloc])
  refine⟨.map (some C.w0.heap.size),_,β,rfl,i1,.d _ _ (.map kvs _ es E (.inr rfl) (World.alloc_heap_new _ _) hm (λi kv e M W=>((hr i kv e M W).1.ext Z)) λi kv e M W=>((hr i kv e M W).2.ext Z))⟩
def F0b(l:List Ty):Bj prog 84 [.mp 1000000] [(1000000,.map (tM l))] (.d (.map (tM l))) [(1000000,.map (tM l))] :=
 E2g G2x (Enters.of func84 rfl (by decide)) _
def F1q(l:List Ad):Bj prog 87 [.mp 1000000] [(1000000,.map (cM l))] (.d (.map (cM l))) [(1000000,.map (cM l))] :=
 E2g F9c (Enters.of func87 rfl (by decide)) _
def TKu:prog.underlying 145=some (.array 2 9):=by kernel_rfl
def TKz:Cf prog 145=some [.d (.str []),.d (.str [])]:=by kernel_rfl
def D3d:∀(i:Nat)(q:Nat × Nat),[(0,1),(1,1)][i]?=some q->q=(i*1,1):=by
 intro i q E
 match i with
 |0|1=>simp at E;rw[<-E]
 |i+2=>simp at E
end Go.Abs
