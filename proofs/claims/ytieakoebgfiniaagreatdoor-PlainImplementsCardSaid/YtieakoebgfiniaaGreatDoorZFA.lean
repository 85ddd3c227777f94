/- several texts in one -/
import Derived.Test.YtieakoebgfiniaaGreatDoorZEV
set_option linter.all false
set_option maxHeartbeats 1000000
set_option maxRecDepth 100000
namespace Go.Abs
open Go Go.Proofs Tryz
mutual
def Ty.count:Ty->Int->Int
 |.mk n a _,k=>Ty.Ce a (k+1+((n.length / 50:Nat):Int))
def Ty.Ce:List Ty->Int->Int
 |[],k=>k
 |t::E,k=>if k<=2000 then Ty.Ce E (t.count k)else k
end
def Ty.count_eq(t:Ty)(k:Int):t.count k=Ty.Ce t.args (k+1+((t.name.length / 50:Nat):Int)):=by cases t;rfl
def cap:Int:=4611686018427387904
mutual
theorem Ty.Jn:∀(t:Ty)(k:Int),t.Ok->k<=t.count k/\t.count k<=max k 2000+2814749767107
 |.mk n a p,k,h=>by have J:n.length<=lim:=h.name;have:=Ty.A5r a (k+1+((n.length / 50:Nat):Int)) (λt ht=>h.arg t ht);simp only[Ty.count];unfold lim at J;omega
theorem Ty.A5r:∀(l:List Ty)(k:Int),(∀t,t∈l->t.Ok)->k<=Ty.Ce l k/\Ty.Ce l k<=max k (2000+2814749767107)
 |[],k,_=>by simp only[Ty.Ce];omega
 |t::I,k,h=>by
  simp only[Ty.Ce];split
  .have L:=Ty.Jn t k (h t (by simp));have O:=Ty.A5r I (t.count k) (λu E=>h u (by simp[E]));omega
  .omega
end
abbrev Zr:List Nat:=[0,1,2,4,5,21]
def A3c:∀(t:Ty)(n:Int),0<=n->n<=cap->Aa prog 59 [B7 t,A5 n] (A5 (t.count n)):=by
 intro t
 induction t using Ty.induct with
 |h t ih =>
 intro n h0 h1;refine C8.bd (Enters.of func59 rfl (by decide)) λa1=>?_;have O:=C2r a1.1;have V:=O.name;have a0:=O.len;have hq:t.name.length / 50<=2814749767106:=by unfold lim at V;omega
 refine cB func59 ?_;refine sR Zr ?_
 (refine sQ Zr λK L=>?_;refine ev ?_)
 refine⟨by unfold B4 cap at*;omega,(by first| (unfold B4;omega)| (simp only[B4,sm,lim]at*;omega)),by unfold B4 cap at*;omega,?_⟩
 (apply L;clear L K)
 refine kR Zr λK1 u1=>?_;refine A0.bb (A0.loop (X:=Nat × Int) (λx=>[(1,A5 x.2),(2,.box 2 0),(5,A5 x.1)]) (λ_=>[(2,.cells [.d (.str t.name),.d (.slice (Ax t.args)),.d (.int .i64 t.pos)])])
  (λx=>x.1<=t.args.length/\0<=x.2/\x.2<=cap+2814749769108/\Ty.Ce (t.args.drop x.1) x.2=t.count n) (λx=>t.args.length - x.1) (0,n+1+((t.name.length / 50:Nat):Int)) ?_ ?_ ?_ ?_)
 .exact⟨by simp,by omega,by unfold cap at*;omega,by rw[Ty.count_eq];rfl⟩
 .simp[sle,Ay,Ae]
 .simp[ble,A7]
 rintro⟨i,m⟩ ⟨hi,Z,a2,E⟩;simp only at hi Z a2 E;have W:∀z:Int,z=t.count n->K1 [(0,.undef),(1,A5 z),(2,.box 2 0),(4,.undef),(5,A5 i),(21,Aw false)] [(2,.cells [.d (.str t.name),.d (.slice (Ax t.args)),.d (.int .i64 t.pos)])]:=by rintro z rfl;refine u1 _ _<|sR Zr ?_;exact aR
 by_cases U:(i:Int)<(t.args.length:Int)
 .have I:i<t.args.length:=by omega
  have hx:t.args[i]?=some t.args[i]:=Bi I;have J:t.args[i]∈t.args:=Fq I;have dp:t.args.drop i=t.args[i]::t.args.drop (i+1):=Gb I;generalize t.args[i]=x at*;rw[dp,Ty.Ce]at E;refine sK λK2 u2=>?_;by_cases hm:m<=2000
  .rw[A8 hm]at E;refine Ei U hm Zr ?_;refine A0.tt rfl (A0.kk (u2 _ _ ?_));clear u2 K2;refine sK λK2 u2=>A0.bb ?_
   (refine lQ Zr λK L=>?_;refine ev ?_)
   refine⟨by omega,Bo x,Et hx,rfl,?_⟩;simp -implicitDefEqProofs only[EV,Nat.reduceAdd,Nat.reduceEqDiff,reduceCtorEq,Bo];refine⟨A5 (x.count m),.inl ⟨_,rfl,ih x J m Z (by unfold cap;omega),rfl⟩,?_⟩;refine ev ?_
   (apply L;clear L K;try simp only[A4,Ac])
   refine u2 _ _ ?_;clear u2 K2
   (refine lQ Zr λK L=>?_;refine ev ?_)
   refine⟨by unfold B4;unfold lim at a0;omega,?_⟩
   (apply L;clear L K;try simp only[A4,])
   have hb:=Ty.Jn x m (O.arg x J);exact⟨(i+1,x.count m),⟨by simp only;omega,by simp only;omega,by simp only;unfold cap;omega,E⟩,by simp only;omega,by simp[sle,Ay,Ae],by simp[ble,A7]⟩
  .rw[A6 hm]at E;refine Ei U hm Zr ?_;refine A0.ff rfl (A0.xx ?_);simp only[A4,Ac,Af];exact W m E
 .refine Ai U Zr λK2 u2=>?_;refine A0.ff rfl (A0.xx ?_);simp only[A4,Ac,Af];rw[Ib (by omega),Ty.Ce]at E;exact W m E
def Qt{n:Nat}(h:n<=lim):n / 50<=2814749767106:=by unfold lim at h;omega
mutual
def Ex.count:Ex->Int->Int
 |.mk _ nm t E ks _,n=>Ex.Ce ks (Ty.Ce E (t.count (n+((nm.length / 50:Nat):Int))))
def Ex.Ce:List Ex->Int->Int
 |[],n=>n
 |e::es,n=>if n<=2000 then Ex.Ce es (e.count n)else n
end
def Ex.count_eq(e:Ex)(n:Int):e.count n=Ex.Ce e.kids (Ty.Ce e.targs (e.type.count (n+((e.name.length / 50:Nat):Int)))):=by cases e;rfl
mutual
theorem Ex.Jn:∀(e:Ex)(n:Int),e.Ok->n<=e.count n/\e.count n<=max n 2000+6000000000000
 |.mk k nm t E ks p,n,h=>by
  have I:=Qt h.name;have U:=Ty.Jn t (n+((nm.length / 50:Nat):Int)) h.type;have W:=Ty.A5r E (t.count (n+((nm.length / 50:Nat):Int))) h.targs.2;have V:=Ex.A5r ks (Ty.Ce E (t.count (n+((nm.length / 50:Nat):Int)))) h.kids.2;have J:((nm.length / 50:Nat):Int)<=2814749767106:=by simp only[Ex.name]at I;omega
  simp only[Ex.count];have Z:0<=((nm.length / 50:Nat):Int):=by omega
  generalize((nm.length / 50:Nat):Int)=q at*;omega
theorem Ex.A5r:∀(l:List Ex)(n:Int),(∀t,t∈l->t.Ok)->n<=Ex.Ce l n/\Ex.Ce l n<=max n (2000+6000000000000)
 |[],n,_=>by simp only[Ex.Ce];omega
 |t::O,n,h=>by
  simp only[Ex.Ce];split
  .have I:=Ex.Jn t n (h t (by simp));have U:=Ex.A5r O (t.count n) (λu L=>h u (by simp[L]));omega
  .omega
end
abbrev R6:List Nat:=[0,1,2,4,5,6,24,42]
def E3r:∀(e:Ex)(n:Int),0<=n->n<=cap - 100000000000000->Aa prog 113 [D3 e,A5 n] (A5 (e.count n)):=by
 intro e
 induction e using Ex.induct with
 |h e ih =>
 intro n h0 h1;refine C8.bd (Enters.of func113 rfl (by decide)) λa2=>?_;have J:=C1w a2.1;have hq:=Qt J.name;have ht:=Ty.Jn e.type (n+((e.name.length / 50:Nat):Int)) J.type;have a4:=Ty.A5r e.targs (e.type.count (n+((e.name.length / 50:Nat):Int))) J.targs.2;have a5:=J.targs.1;have a3:=J.kids.1;have a1:=Ex.count_eq e n;refine cB func113 ?_;refine sR R6 ?_
 (refine sQ R6 λK U=>?_;refine ev ?_)
 refine⟨(by first| (unfold B4;omega)| (simp only[B4,sm,lim]at*;omega)),by unfold B4 cap at*;omega,A5 (e.type.count (n+((e.name.length / 50:Nat):Int))),.inl ⟨_,rfl,A3c e.type _ (by omega) (by unfold cap at*;omega),rfl⟩,?_⟩;refine ev ?_
 (apply U;clear U K)
 generalize e.type.count (n+((e.name.length / 50:Nat):Int))=n1 at*;refine sK λK1 u1=>?_;have V:∀sl bx,sle sl [(1,A5 (Ty.Ce e.targs n1)),(2,.box 2 0)]->ble bx [(2,.cells ((Cg e).map .d))]->K1 sl bx:=by
  intro sl bx h1 h2;refine u1 _ _ (A0.ww h1 h2 ?_);clear u1 K1;generalize Ty.Ce e.targs n1=n2 at*;refine kR R6 λK1 u1=>?_;have V:∀sl bx,sle sl [(1,A5 (Ex.Ce e.kids n2))]->ble bx []->K1 sl bx:=by intro sl bx h1 h2;refine u1 _ _ (A0.ww h1 h2 ?_);refine sR R6 ?_;rw[a1];exact aR
  refine A0.bb (A0.loop (X:=Nat × Int) (λx=>[(1,A5 x.2),(6,A5 x.1),(2,.box 2 0)]) (λ_=>[(2,.cells ((Cg e).map .d))])
   (λx=>x.1<=e.kids.length/\0<=x.2/\x.2<=cap+100000000000000/\Ex.Ce (e.kids.drop x.1) x.2=Ex.Ce e.kids n2) (λx=>e.kids.length - x.1) (0,n2) ?_ ?_ ?_ ?_)
  .exact⟨by simp,by omega,by unfold cap at*;omega,by first|rfl|simp⟩
  .simp[sle,Ay,Ae]
  .exact(by simp[ble,A7,Cg,])
  rintro⟨i,m⟩ ⟨hi,W,a0,E⟩;simp only at hi W a0 E;by_cases L:(i:Int)<(e.kids.length:Int)
  .have I:i<e.kids.length:=by omega
   have hx:e.kids[i]?=some e.kids[i]:=Bi I;have O:e.kids[i]∈e.kids:=Fq I;have dp:e.kids.drop i=e.kids[i]::e.kids.drop (i+1):=Gb I;generalize e.kids[i]=x at*;rw[dp,Ex.Ce]at E;refine sK λK2 u2=>?_;by_cases Z:m<=2000
   .rw[A8 Z]at E;refine Ei L Z R6 ?_;refine A0.tt rfl (A0.kk (u2 _ _ ?_));clear u2 K2;refine sK λK2 u2=>A0.bb ?_
    (refine lQ R6 λK U=>?_;refine ev ?_)
    (refine⟨by omega,Cg x,G8 hx,rfl,?_⟩;refine ev ?_;refine⟨A5 (x.count m),.inl ⟨_,rfl,ih x O m W (by unfold cap;omega),rfl⟩,?_⟩;refine ev ?_)
    (apply U;clear U K;try simp only[A4,Ac])
    refine u2 _ _ ?_;clear u2 K2
    (refine lQ R6 λK U=>?_;refine ev ?_)
    refine⟨by unfold B4;unfold lim at*;omega,?_⟩
    (apply U;clear U K;try simp only[A4,])
    have hb:=Ex.Jn x m (J.kids.2 x O);exact⟨(i+1,x.count m),⟨by simp only;omega,by simp only;omega,by simp only;unfold cap;omega,E⟩,by simp only;omega,by simp[sle,Ay,Ae],(by simp[ble,A7,Cg,])⟩
   .rw[A6 Z]at E;refine Ei L Z R6 ?_;refine A0.ff rfl (A0.xx ?_);simp only[A4,Ac,Af];exact V _ _ (by simp[sle,Ay,Ae,E]) sB
  .refine Ai L R6 λK2 u2=>?_;refine A0.ff rfl (A0.xx ?_);simp only[A4,Ac,Af];rw[Ib (by omega),Ex.Ce]at E;exact V _ _ (by simp[sle,Ay,Ae,E]) sB
 refine sR R6 ?_;refine A0.bb (A0.loop (X:=Nat × Int) (λx=>[(1,A5 x.2),(5,A5 x.1),(2,.box 2 0)]) (λ_=>[(2,.cells ((Cg e).map .d))])
  (λx=>x.1<=e.targs.length/\0<=x.2/\x.2<=cap+100000000000000/\Ty.Ce (e.targs.drop x.1) x.2=Ty.Ce e.targs n1) (λx=>e.targs.length - x.1) (0,n1) ?_ ?_ ?_ ?_)
 .exact⟨by simp,by omega,by unfold cap at*;omega,by first|rfl|simp⟩
 .simp[sle,Ay,Ae]
 .exact(by simp[ble,A7,Cg,])
 rintro⟨i,m⟩ ⟨hi,W,a0,E⟩;simp only at hi W a0 E;by_cases L:(i:Int)<(e.targs.length:Int)
 .have I:i<e.targs.length:=by omega
  have hx:e.targs[i]?=some e.targs[i]:=Bi I;have O:e.targs[i]∈e.targs:=Fq I;have dp:e.targs.drop i=e.targs[i]::e.targs.drop (i+1):=Gb I;generalize e.targs[i]=x at*;rw[dp,Ty.Ce]at E;refine sK λK2 u2=>?_;by_cases Z:m<=2000
  .rw[A8 Z]at E;refine Ei L Z R6 ?_;refine A0.tt rfl (A0.kk (u2 _ _ ?_));clear u2 K2;refine sK λK2 u2=>A0.bb ?_
   (refine lQ R6 λK U=>?_;refine ev ?_)
   (refine⟨by omega,Bo x,Et hx,rfl,?_⟩;refine ev ?_;refine⟨A5 (x.count m),.inl ⟨_,rfl,A3c x m W (by unfold cap;omega),rfl⟩,?_⟩;refine ev ?_)
   (apply U;clear U K;try simp only[A4,Ac])
   refine u2 _ _ ?_;clear u2 K2
   (refine lQ R6 λK U=>?_;refine ev ?_)
   refine⟨by unfold B4;unfold lim at*;omega,?_⟩
   (apply U;clear U K;try simp only[A4,])
   have hb:=Ty.Jn x m (J.targs.2 x O);exact⟨(i+1,x.count m),⟨by simp only;omega,by simp only;omega,by simp only;unfold cap;omega,E⟩,by simp only;omega,by simp[sle,Ay,Ae],(by simp[ble,A7,Cg,])⟩
  .rw[A6 Z]at E;refine Ei L Z R6 ?_;refine A0.ff rfl (A0.xx ?_);simp only[A4,Ac,Af];exact V _ _ (by simp[sle,Ay,Ae,E]) (by simp[ble,A7,Cg,])
 .refine Ai L R6 λK2 u2=>?_;refine A0.ff rfl (A0.xx ?_);simp only[A4,Ac,Af];rw[Ib (by omega),Ty.Ce]at E;exact V _ _ (by simp[sle,Ay,Ae,E]) (by simp[ble,A7,Cg,])
def C5:List Ah->Int->Int
 |[],n=>n
 |f::fs,n=>if n<=2000 then C5 fs (f.bound.count (n+1+((f.name.length / 50:Nat):Int)))else n
def D2:List Param->Int->Int
 |[],n=>n
 |f::fs,n=>if n<=2000 then D2 fs (f.type.count (n+1+((f.name.length / 50:Nat):Int)))else n
def E2q(f:Ah)(n:Int)(h:f.Ok):n<=f.bound.count (n+1+((f.name.length / 50:Nat):Int))/\f.bound.count (n+1+((f.name.length / 50:Nat):Int))<=max n 2000+6000000000000:=by have I:=Qt h.name;have E:=Ty.Jn f.bound (n+1+((f.name.length / 50:Nat):Int)) h.bound;omega
def D9g(f:Param)(n:Int)(h:f.Ok):n<=f.type.count (n+1+((f.name.length / 50:Nat):Int))/\f.type.count (n+1+((f.name.length / 50:Nat):Int))<=max n 2000+6000000000000:=by have I:=Qt h.name;have E:=Ty.Jn f.type (n+1+((f.name.length / 50:Nat):Int)) h.type;omega
def B3w:∀(l:List Ah)(n:Int),(∀t,t∈l->t.Ok)->n<=C5 l n/\C5 l n<=max n (2000+6000000000000)
 |[],n,_=>by simp only[C5];omega
 |t::I,n,h=>by
  simp only[C5];split
  .have L:=E2q t n (h t (by simp));have J:=B3w I (t.bound.count (n+1+((t.name.length / 50:Nat):Int))) (λu E=>h u (by simp[E]));omega
  .omega
def B2b:∀(l:List Param)(n:Int),(∀t,t∈l->t.Ok)->n<=D2 l n/\D2 l n<=max n (2000+6000000000000)
 |[],n,_=>by simp only[D2];omega
 |t::I,n,h=>by
  simp only[D2];split
  .have L:=D9g t n (h t (by simp));have J:=B2b I (t.type.count (n+1+((t.name.length / 50:Nat):Int))) (λu E=>h u (by simp[E]));omega
  .omega
abbrev q3n:List Nat:=[0,1,4,5,13]
def D9e(l:List Ah)(n:Int)(h0:0<=n)(h1:n<=cap - 100000000000000):Aa prog 115 [.d (.slice (Ag l)),A5 n] (A5 (C5 l n)):=by
 refine C8.bd (Enters.of func115 rfl (by decide)) λa0=>?_;have L:=B4f a0.1;have hl:=L.1;refine cB func115 ?_;refine sR q3n<|sK λK1 u1=>?_;have U:∀sl bx,sle sl [(1,A5 (C5 l n))]->ble bx []->K1 sl bx:=by intro sl bx h1 h2;refine u1 _ _ (A0.ww h1 h2 ?_);clear u1 K1;refine sR q3n ?_;exact aR
 refine sR q3n ?_;refine A0.bb (A0.loop (X:=Nat × Int) (λx=>[(1,A5 x.2),(5,A5 x.1),(0,.d (.slice (Ag l)))]) (λ_=>[])
  (λx=>x.1<=l.length/\0<=x.2/\x.2<=cap+100000000000000/\C5 (l.drop x.1) x.2=C5 l n) (λx=>l.length - x.1) (0,n) ?_ ?_ ?_ ?_)
 .exact⟨by simp,by omega,by unfold cap at*;omega,by first|rfl|simp⟩
 .simp[sle,Ay,Ae]
 .exact sB
 rintro⟨i,m⟩ ⟨hi,a1,a2,E⟩;simp only at hi a1 a2 E;by_cases O:(i:Int)<(l.length:Int)
 .have I:i<l.length:=by omega
  have hx:l[i]?=some l[i]:=Bi I;have J:l[i]∈l:=Fq I;have dp:l.drop i=l[i]::l.drop (i+1):=Gb I;generalize l[i]=x at*;rw[dp,C5]at E;refine sK λZ u2=>?_;by_cases W:m<=2000
  .rw[A8 W]at E;refine Ei O W q3n ?_;refine A0.tt rfl (A0.kk (u2 _ _ ?_));clear u2 Z;refine sK λZ u2=>A0.bb ?_
   (refine lG q3n [] 15 [] λK V=>?_;simp -implicitDefEqProofs only[EV,Nat.reduceAdd,Nat.reduceEqDiff,reduceCtorEq,Iw,W4,C9d])
   (have hq:=Qt (L.2 x J).name;refine⟨by omega,Jm x,F4 hx,rfl,?_⟩;refine ev ?_;refine⟨by unfold B4 cap at*;omega,by omega,Jm x,F4 hx,rfl,?_⟩;refine ev ?_;refine⟨(by first| (unfold B4;omega)| (simp only[B4,sm,lim]at*;omega)),by unfold B4 cap at*;omega,A5 (x.bound.count (m+1+((x.name.length / 50:Nat):Int))),.inl ⟨_,rfl,A3c _ _ (by omega) (by unfold cap at*;omega),rfl⟩,?_⟩;refine ev ?_)
   (apply V;clear V K;try simp only[A4,Ac])
   refine u2 _ _ ?_;clear u2 Z
   (refine lQ q3n λK V=>?_;refine ev ?_)
   refine⟨by unfold B4;unfold lim at*;omega,?_⟩
   (apply V;clear V K;try simp only[A4,])
   have hb:=E2q x m (L.2 x J);exact⟨(i+1,x.bound.count (m+1+((x.name.length / 50:Nat):Int))),⟨by simp only;omega,by simp only;omega,by simp only;unfold cap;omega,E⟩,by simp only;omega,by simp[sle,Ay,Ae],sB⟩
  .rw[A6 W]at E;refine Ei O W q3n ?_;refine A0.ff rfl (A0.xx ?_);simp only[A4,Ac,Af];exact U _ _ (by simp[sle,Ay,Ae,E]) sB
 .refine Ai O q3n λZ u2=>?_;refine A0.ff rfl (A0.xx ?_);simp only[A4,Ac,Af];rw[Ib (by omega),C5]at E;exact U _ _ (by simp[sle,Ay,Ae,E]) sB
abbrev q4n:List Nat:=[0,1,4,5,13]
def D1m(l:List Param)(n:Int)(h0:0<=n)(h1:n<=cap - 100000000000000):Aa prog 114 [.d (.slice (Av l)),A5 n] (A5 (D2 l n)):=by
 refine C8.bd (Enters.of func114 rfl (by decide)) λa0=>?_;have L:=B4i a0.1;have hl:=L.1;refine cB func114 ?_;refine sR q4n<|sK λK1 u1=>?_;have U:∀sl bx,sle sl [(1,A5 (D2 l n))]->ble bx []->K1 sl bx:=by intro sl bx h1 h2;refine u1 _ _ (A0.ww h1 h2 ?_);clear u1 K1;refine sR q4n ?_;exact aR
 refine sR q4n ?_;refine A0.bb (A0.loop (X:=Nat × Int) (λx=>[(1,A5 x.2),(5,A5 x.1),(0,.d (.slice (Av l)))]) (λ_=>[])
  (λx=>x.1<=l.length/\0<=x.2/\x.2<=cap+100000000000000/\D2 (l.drop x.1) x.2=D2 l n) (λx=>l.length - x.1) (0,n) ?_ ?_ ?_ ?_)
 .exact⟨by simp,by omega,by unfold cap at*;omega,by first|rfl|simp⟩
 .simp[sle,Ay,Ae]
 .exact sB
 rintro⟨i,m⟩ ⟨hi,a1,a2,E⟩;simp only at hi a1 a2 E;by_cases O:(i:Int)<(l.length:Int)
 .have I:i<l.length:=by omega
  have hx:l[i]?=some l[i]:=Bi I;have J:l[i]∈l:=Fq I;have dp:l.drop i=l[i]::l.drop (i+1):=Gb I;generalize l[i]=x at*;rw[dp,D2]at E;refine sK λZ u2=>?_;by_cases W:m<=2000
  .rw[A8 W]at E;refine Ei O W q4n ?_;refine A0.tt rfl (A0.kk (u2 _ _ ?_));clear u2 Z;refine sK λZ u2=>A0.bb ?_
   (refine lG q4n [] 15 [] λK V=>?_;simp -implicitDefEqProofs only[EV,Nat.reduceAdd,Nat.reduceEqDiff,reduceCtorEq,Iw,A9j,B8u])
   (have hq:=Qt (L.2 x J).name;refine⟨by omega,G9 x,Du hx,rfl,?_⟩;refine ev ?_;refine⟨by unfold B4 cap at*;omega,by omega,G9 x,Du hx,rfl,?_⟩;refine ev ?_;refine⟨(by first| (unfold B4;omega)| (simp only[B4,sm,lim]at*;omega)),by unfold B4 cap at*;omega,A5 (x.type.count (m+1+((x.name.length / 50:Nat):Int))),.inl ⟨_,rfl,A3c _ _ (by omega) (by unfold cap at*;omega),rfl⟩,?_⟩;refine ev ?_)
   (apply V;clear V K;try simp only[A4,Ac])
   refine u2 _ _ ?_;clear u2 Z
   (refine lQ q4n λK V=>?_;refine ev ?_)
   refine⟨by unfold B4;unfold lim at*;omega,?_⟩
   (apply V;clear V K;try simp only[A4,])
   have hb:=D9g x m (L.2 x J);exact⟨(i+1,x.type.count (m+1+((x.name.length / 50:Nat):Int))),⟨by simp only;omega,by simp only;omega,by simp only;unfold cap;omega,E⟩,by simp only;omega,by simp[sle,Ay,Ae],sB⟩
  .rw[A6 W]at E;refine Ei O W q4n ?_;refine A0.ff rfl (A0.xx ?_);simp only[A4,Ac,Af];exact U _ _ (by simp[sle,Ay,Ae,E]) sB
 .refine Ai O q4n λZ u2=>?_;refine A0.ff rfl (A0.xx ?_);simp only[A4,Ac,Af];rw[Ib (by omega),D2]at E;exact U _ _ (by simp[sle,Ay,Ae,E]) sB
def A3.count(s:A3)(n:Int):Int:=s.result.count (D2 s.params (C5 s.A1 (n+((s.name.length / 50:Nat):Int))))
def A3.Jn(s:A3)(n:Int)(h:s.Ok):n<=s.count n/\s.count n<=max n 2000+10000000000000:=by have L:=Qt h.name;have E:=B3w s.A1 (n+((s.name.length / 50:Nat):Int)) h.A1.2;have I:=B2b s.params (C5 s.A1 (n+((s.name.length / 50:Nat):Int))) h.params.2;have J:=Ty.Jn s.result (D2 s.params (C5 s.A1 (n+((s.name.length / 50:Nat):Int)))) h.result;unfold A3.count;omega
def D4t(s:A3)(n:Int)(V:0<=n)(J:n<=cap - 200000000000000):Aa prog 116 [Cy s,A5 n] (A5 (s.count n)):=by
 refine C8.bd (Enters.of func116 rfl (by decide)) λE=>?_;have h:=H2n E.1;have L:=Qt h.name;have O:=B3w s.A1 (n+((s.name.length / 50:Nat):Int)) h.A1.2;have U:=B2b s.params (C5 s.A1 (n+((s.name.length / 50:Nat):Int))) h.params.2;refine cB func116 ?_;refine sR [0,1,2,4] ?_
 (refine sG [0,1,2,4] [] 14 [] λK I=>?_;refine ev ?_)
 refine⟨(by first| (unfold B4;omega)| (simp only[B4,sm,lim]at*;omega)),by unfold B4 cap at*;omega,A5 (C5 s.A1 (n+((s.name.length / 50:Nat):Int))),.inl ⟨_,rfl,D9e _ _ (by omega) (by unfold cap at*;omega),rfl⟩,?_⟩;refine ev ?_;refine⟨A5 (D2 s.params (C5 s.A1 (n+((s.name.length / 50:Nat):Int)))),.inl ⟨_,rfl,D1m _ _ (by omega) (by unfold cap at*;omega),rfl⟩,?_⟩;refine ev ?_;refine⟨A5 (s.count n),.inl ⟨_,rfl,A3c _ _ (by omega) (by unfold cap at*;omega),rfl⟩,?_⟩;refine ev ?_
 (apply I;clear I K)
 exact aR
def Ix:List A2->Int->Int
 |[],n=>n
 |v::vs,n=>if n<=2000 then Ix vs (n+1+((v.length / 50:Nat):Int))else n
def En:List A3->Int->Int
 |[],n=>n
 |s::ss,n=>if n<=2000 then En ss (s.count n)else n
def Decl.S6(d:Decl)(n:Int):Int:=if n<=2000 then d.body.count (d.sig.count n)else n
def Decl.count(d:Decl)(n:Int):Int :=
 d.S6 (Ix d.vars (En d.sigs (D2 d.fields (C5 d.A1 (n+1+((d.name.length / 50:Nat):Int)+((d.recv.length / 50:Nat):Int))))))
def J3:List Decl->Int->Int
 |[],n=>n
 |d::ds,n=>if n<=2000 then J3 ds (d.count n)else n
def Prog.count(p:Prog):Int:=J3 p.decls (p.main.count 0)
def C7u:∀(l:List A2)(n:Int),(∀t,t∈l->t.length<=lim)->n<=Ix l n/\Ix l n<=max n (2000+6000000000000)
 |[],n,_=>by simp only[Ix];omega
 |t::I,n,h=>by
  simp only[Ix];split
  .have L:=Qt (h t (by simp));have J:=C7u I (n+1+((t.length / 50:Nat):Int)) (λu E=>h u (by simp[E]));omega
  .omega
def C1r:∀(l:List A3)(n:Int),(∀t,t∈l->t.Ok)->n<=En l n/\En l n<=max n (2000+10000000000000)
 |[],n,_=>by simp only[En];omega
 |t::I,n,h=>by
  simp only[En];split
  .have L:=A3.Jn t n (h t (by simp));have J:=C1r I (t.count n) (λu E=>h u (by simp[E]));omega
  .omega
def Decl.G7i(d:Decl)(n:Int)(h:d.Ok):n<=d.S6 n/\d.S6 n<=max n (2000+20000000000000):=by have I:=A3.Jn d.sig n h.sig;have E:=Ex.Jn d.body (d.sig.count n) h.body;unfold Decl.S6;split <;> omega
def Decl.Jn(d:Decl)(n:Int)(h:d.Ok):n<=d.count n/\d.count n<=max n 2000+30000000000000:=by have L:=Qt h.name;have U:=Qt h.recv;unfold Decl.count;generalize O:n+1+((d.name.length / 50:Nat):Int)+((d.recv.length / 50:Nat):Int)=n0;have V:=B3w d.A1 n0 h.A1.2;have E:=B2b d.fields (C5 d.A1 n0) h.fields.2;have J:=C1r d.sigs (D2 d.fields (C5 d.A1 n0)) h.sigs.2;have W:=C7u d.vars (En d.sigs (D2 d.fields (C5 d.A1 n0))) h.vars.2;have I:=Decl.G7i d (Ix d.vars (En d.sigs (D2 d.fields (C5 d.A1 n0)))) h;omega
abbrev Jj:List Nat:=[0,1,2,3,4,5,6,7,19,53,71,85]
set_option maxHeartbeats 2000000 in
def F8c(p:Prog):Aa prog 48 [Ct p] (A5 p.count):=by
 refine C8.bd (Enters.of func48 rfl (by decide)) λa8=>?_;have a4:=B3y a8.1;have he:=Ex.Jn p.main 0 a4.main;have hl:=a4.decls.1;have a3:p.count=J3 p.decls (p.main.count 0):=rfl;refine cB func48 ?_;refine sR Jj ?_
 (refine sQ Jj λK L=>?_;refine ev ?_)
 refine⟨A5 (p.main.count 0),.inl ⟨_,rfl,E3r _ 0 (by omega) (by unfold cap;omega),rfl⟩,?_⟩;refine ev ?_
 (apply L;clear L K)
 generalize p.main.count 0=n1 at*;refine sK λK1 u1=>?_;have V:∀sl bx,sle sl [(3,A5 (J3 p.decls n1))]->ble bx []->K1 sl bx:=by intro sl bx h1 h2;refine u1 _ _ (A0.ww h1 h2 ?_);clear u1 K1;refine sR Jj ?_;rw[a3];exact aR
 refine sR Jj ?_;refine A0.bb (A0.loop (X:=Nat × Int) (λx=>[(3,A5 x.2),(4,A5 x.1),(1,.box 1 0)]) (λ_=>[(1,.cells ((Aj p).map .d))])
  (λx=>x.1<=p.decls.length/\0<=x.2/\x.2<=100000000000000/\J3 (p.decls.drop x.1) x.2=J3 p.decls n1) (λx=>p.decls.length - x.1) (0,n1) ?_ ?_ ?_ ?_)
 .exact⟨by simp,by omega,by omega,by first|rfl|simp⟩
 .exact sS
 .exact(by simp[ble,A7,Aj])
 rintro⟨j,k⟩ ⟨hj,a9,a7,E⟩;simp only at hj a9 a7 E;by_cases U:(j:Int)<(p.decls.length:Int)
 .have J:j<p.decls.length:=by omega
  have hy:p.decls[j]?=some p.decls[j]:=Bi J;have a5:p.decls[j]∈p.decls:=Fq J;have dp:p.decls.drop j=p.decls[j]::p.decls.drop (j+1):=Gb J;generalize p.decls[j]=y at*;have I:=a4.decls.2 y a5;rw[dp,J3]at E;refine sK λW u2=>?_;by_cases Z:k<=2000
  .rw[A8 Z]at E;refine Ei U Z Jj ?_;refine A0.tt rfl (A0.kk (u2 _ _ ?_));clear u2 W;refine sK λW u2=>?_;have V:∀sl bx,sle sl [(3,A5 (y.count k)),(4,A5 j),(1,.box 1 0)]->ble bx [(1,.cells ((Aj p).map .d))]->W sl bx:=by
    intro sl bx h1 h2;refine u2 _ _ (A0.ww h1 h2 ?_);clear u2 W
    (refine lQ Jj λK L=>?_;refine ev ?_)
    refine⟨by unfold B4;unfold lim at*;omega,?_⟩
    (apply L;clear L K;try simp only[A4,])
    have hb:=Decl.Jn y k I;exact⟨(j+1,y.count k),⟨by simp only;omega,by simp only;omega,by simp only;omega,E⟩,by simp only;omega,by simp[sle,Ay,Ae],(by simp[ble,A7,Aj])⟩
   clear u2;have a1:y.count k=y.S6 (Ix y.vars (En y.sigs (D2 y.fields (C5 y.A1 (k+1+((y.name.length / 50:Nat):Int)+((y.recv.length / 50:Nat):Int)))))):=rfl;generalize y.count k=res at*;have ag:=Qt I.name;have ac:=Qt I.recv;refine A0.bb ?_
   (refine sQ Jj λK L=>?_;refine ev ?_)
   refine⟨by omega,Ar y,Dx hy,rfl,?_⟩;refine ev ?_
   (apply L;clear L K)
   (refine sG Jj [] 17 [] λK L=>?_;simp -implicitDefEqProofs only[EV,Nat.reduceAdd,Nat.reduceEqDiff,Int.reduceEq,reduceCtorEq,Ka,W4,A9j,R8,])
   generalize ae:k+1+((y.name.length / 50:Nat):Int)+((y.recv.length / 50:Nat):Int)=n2 at*;have h3:=B3w y.A1 n2 I.A1.2;have h4:=B2b y.fields (C5 y.A1 n2) I.fields.2;refine⟨(by first| (unfold B4;omega)| (simp only[B4,sm,lim]at*;omega)),(by first| (unfold B4;omega)| (simp only[B4,sm,lim]at*;omega)),(by first| (unfold B4;omega)| (simp only[B4,sm,lim]at*;omega)),(by first| (unfold B4;omega)| (simp only[B4,sm,lim]at*;omega)),(by first| (unfold B4;omega)| (simp only[B4,sm,lim]at*;omega)),A5 (C5 y.A1 n2),.inl ⟨_,rfl,D9e _ _ (by omega) (by unfold cap;omega),rfl⟩,?_⟩;refine ev ?_;refine⟨A5 (D2 y.fields (C5 y.A1 n2)),.inl ⟨_,rfl,D1m _ _ (by omega) (by unfold cap;omega),rfl⟩,?_⟩;refine ev ?_
   (apply L;clear L K)
   generalize ad:D2 y.fields (C5 y.A1 n2)=n3 at*;have ai:=I.sigs.1;have af:=I.vars.1;have h5:=C1r y.sigs n3 I.sigs.2;have h6:=C7u y.vars (En y.sigs n3) I.vars.2;have a':=A3.Jn y.sig (Ix y.vars (En y.sigs n3)) I.sig;have ab:=Ex.Jn y.body (y.sig.count (Ix y.vars (En y.sigs n3))) I.body;refine sK λK3 u3=>?_;have V:∀sl bx,sle sl [(3,A5 (En y.sigs n3)),(4,A5 j),(1,.box 1 0),(5,.box 5 0)]->ble bx [(1,.cells ((Aj p).map .d)),(5,.cells ((Ar y).map .d))]->K3 sl bx:=by
    intro sl bx h1 h2;refine u3 _ _ (A0.ww h1 h2 ?_);clear u3 K3;generalize ah:En y.sigs n3=n4 at*;refine sK λK3 u3=>?_;have V:∀sl bx,sle sl [(3,A5 (Ix y.vars n4)),(4,A5 j),(1,.box 1 0),(5,.box 5 0)]->ble bx [(1,.cells ((Aj p).map .d)),(5,.cells ((Ar y).map .d))]->K3 sl bx:=by
     intro sl bx h1 h2;refine u3 _ _ (A0.ww h1 h2 ?_);clear u3 K3;generalize aa:Ix y.vars n4=n5 at*;refine sR Jj ?_;unfold Decl.S6 at a1;by_cases O:n5<=2000
     .rw[A8 O]at a1;refine A0.tt (by simp[Ao,Ae,O]) ?_
      (refine lG Jj [] 6 [] λK L=>?_;refine Ap O ?_)
      refine⟨A5 (y.sig.count n5),.inl ⟨_,rfl,D4t _ _ (by omega) (by unfold cap;omega),rfl⟩,?_⟩;refine ev ?_;refine⟨A5 (y.body.count (y.sig.count n5)),.inl ⟨_,rfl,E3r _ _ (by omega) (by unfold cap;omega),rfl⟩,?_⟩;refine ev ?_
      (apply L;clear L K;try simp only[A4,Ac])
      exact V _ _ (by simp[sle,Ay,Ae,a1]) (by simp[ble,A7,Aj])
     .rw[A6 O]at a1;refine A0.ff (by simp[Ao,Ae,O]) (A0.kk ?_);simp only[A4,Ac];exact V _ _ (by simp[sle,Ay,Ae,a1]) (by simp[ble,A7,Aj])
    refine sR Jj ?_;refine A0.bb (A0.loop (X:=Nat × Int) (λx=>[(3,A5 x.2),(7,A5 x.1),(4,A5 j),(1,.box 1 0),(5,.box 5 0)]) (λ_=>[(1,.cells ((Aj p).map .d)),(5,.cells ((Ar y).map .d))])
     (λx=>x.1<=y.vars.length/\0<=x.2/\x.2<=cap+100000000000000/\Ix (y.vars.drop x.1) x.2=Ix y.vars n4) (λx=>y.vars.length - x.1) (0,n4) ?_ ?_ ?_ ?_)
    .exact⟨by simp,by omega,by unfold cap at*;omega,by first|rfl|simp⟩
    .simp[sle,Ay,Ae]
    .exact(by simp[ble,A7,Ar,Aj])
    rintro⟨i,m⟩ ⟨hi,a2,a6,E⟩;simp only at hi a2 a6 E;by_cases U:(i:Int)<(y.vars.length:Int)
    .have J:i<y.vars.length:=by omega
     have hx:y.vars[i]?=some y.vars[i]:=Bi J;have a0:y.vars[i]∈y.vars:=Fq J;have dp:y.vars.drop i=y.vars[i]::y.vars.drop (i+1):=Gb J;generalize y.vars[i]=x at*;rw[dp,Ix]at E;refine sK λW u2=>?_;by_cases Z:m<=2000
     .rw[A8 Z]at E;refine Ei U Z Jj ?_;refine A0.tt rfl (A0.kk (u2 _ _ ?_));clear u2 W;refine sK λW u2=>A0.bb ?_
      (refine lQ Jj λK L=>?_;simp -implicitDefEqProofs only[EV,Nat.reduceEqDiff,reduceCtorEq,Ka,B2k,R8,])
      (have hq:=Qt (I.vars.2 x a0);refine⟨(by first| (unfold B4;omega)| (simp only[B4,sm,lim]at*;omega)),by omega,_,Ko hx,rfl,?_⟩;refine ev ?_;refine⟨(by first| (unfold B4;omega)| (simp only[B4,sm,lim]at*;omega)),by unfold B4 cap at*;omega,?_⟩)
      (apply L;clear L K;try simp only[A4,Ac])
      refine u2 _ _ ?_;clear u2 W
      (refine lQ Jj λK L=>?_;refine ev ?_)
      refine⟨by unfold B4;unfold lim at*;omega,?_⟩
      (apply L;clear L K;try simp only[A4,])
      have hb:=Qt (I.vars.2 x a0);exact⟨(i+1,m+1+((x.length / 50:Nat):Int)),⟨by simp only;omega,by simp only;omega,by simp only;unfold cap;omega,E⟩,by simp only;omega,by simp[sle,Ay,Ae],(by simp[ble,A7,Ar,Aj])⟩
     .rw[A6 Z]at E;refine Ei U Z Jj ?_;refine A0.ff rfl (A0.xx ?_);simp only[A4,Ac,Af];exact V _ _ (by simp[sle,Ay,Ae,E]) (by simp[ble,A7,Ar,Aj])
    .refine Ai U Jj λW u2=>?_;refine A0.ff rfl (A0.xx ?_);simp only[A4,Ac,Af];rw[Ib (by omega),Ix]at E;exact V _ _ (by simp[sle,Ay,Ae,E]) (by simp[ble,A7,Ar,Aj])
   refine sR Jj ?_;refine A0.bb (A0.loop (X:=Nat × Int) (λx=>[(3,A5 x.2),(6,A5 x.1),(4,A5 j),(1,.box 1 0),(5,.box 5 0)]) (λ_=>[(1,.cells ((Aj p).map .d)),(5,.cells ((Ar y).map .d))])
    (λx=>x.1<=y.sigs.length/\0<=x.2/\x.2<=cap+100000000000000/\En (y.sigs.drop x.1) x.2=En y.sigs n3) (λx=>y.sigs.length - x.1) (0,n3) ?_ ?_ ?_ ?_)
   .exact⟨by simp,by omega,by unfold cap at*;omega,by first|rfl|simp⟩
   .simp[sle,Ay,Ae]
   .exact(by simp[ble,A7,Ar,Aj])
   rintro⟨i,m⟩ ⟨hi,a2,a6,E⟩;simp only at hi a2 a6 E;by_cases U:(i:Int)<(y.sigs.length:Int)
   .have J:i<y.sigs.length:=by omega
    have hx:y.sigs[i]?=some y.sigs[i]:=Bi J;have a0:y.sigs[i]∈y.sigs:=Fq J;have dp:y.sigs.drop i=y.sigs[i]::y.sigs.drop (i+1):=Gb J;generalize y.sigs[i]=x at*;rw[dp,En]at E;refine sK λW u2=>?_;by_cases Z:m<=2000
    .rw[A8 Z]at E;refine Ei U Z Jj ?_;refine A0.tt rfl (A0.kk (u2 _ _ ?_));clear u2 W;refine sK λW u2=>A0.bb ?_
     (refine lQ Jj λK L=>?_;refine ev ?_)
     (refine⟨by omega,Dd x,D1 hx,rfl,?_⟩;refine ev ?_;refine⟨A5 (x.count m),.inl ⟨_,rfl,D4t x m a2 (by unfold cap;omega),rfl⟩,?_⟩;refine ev ?_)
     (apply L;clear L K;try simp only[A4,Ac])
     refine u2 _ _ ?_;clear u2 W
     (refine lQ Jj λK L=>?_;refine ev ?_)
     refine⟨by unfold B4;unfold lim at*;omega,?_⟩
     (apply L;clear L K;try simp only[A4,])
     have hb:=A3.Jn x m (I.sigs.2 x a0);exact⟨(i+1,x.count m),⟨by simp only;omega,by simp only;omega,by simp only;unfold cap;omega,E⟩,by simp only;omega,by simp[sle,Ay,Ae],(by simp[ble,A7,Ar,Aj])⟩
    .rw[A6 Z]at E;refine Ei U Z Jj ?_;refine A0.ff rfl (A0.xx ?_);simp only[A4,Ac,Af];exact V _ _ (by simp[sle,Ay,Ae,E]) (by simp[ble,A7,Ar,Aj])
   .refine Ai U Jj λW u2=>?_;refine A0.ff rfl (A0.xx ?_);simp only[A4,Ac,Af];rw[Ib (by omega),En]at E;exact V _ _ (by simp[sle,Ay,Ae,E]) (by simp[ble,A7,Ar,Aj])
  .rw[A6 Z]at E;refine Ei U Z Jj ?_;refine A0.ff rfl (A0.xx ?_);simp only[A4,Ac,Af];exact V _ _ (by simp[sle,Ay,Ae,E]) sB
 .refine Ai U Jj λW u2=>?_;refine A0.ff rfl (A0.xx ?_);simp only[A4,Ac,Af];rw[Ib (by omega),J3]at E;exact V _ _ (by simp[sle,Ay,Ae,E]) sB
def Prog.Jn(p:Prog)(h:p.Ok):0<=p.count:=by
 have V:=(Ex.Jn p.main 0 h.main).1;have L:∀(l:List Decl) (n:Int),(∀d,d∈l->d.Ok)->n<=J3 l n:=by
  intro l
  induction l with
  |nil=>intro n _;simp[J3]
  |cons d l J =>
   intro n E;simp only[J3];split
   .have O:=Decl.Jn d n (E d (by simp));have U:=J (d.count n) (λu I=>E u (by simp[I]));omega
   .omega
 have O:=L p.decls (p.main.count 0) h.decls.2;unfold Prog.count;omega
def G7j(p:Prog):Aa prog 18 [Ct p] (Aw (decide (p.count<=600))):=by refine cB func18 ?_;refine sR [0,1,2] ?_;refine sC (F8c p) [0,1,2] ?_;exact aR
def Decl.Fv(d:Decl)(nm:A2):Bool:=(decide (d.kind=1) ||decide (d.kind=2)) && decide (d.name=nm)
def findD(nm:A2):List Decl->Nat->Int
 |[],_=>-1
 |d::ds,i=>if d.Fv nm=true then i else findD nm ds (i+1)
abbrev Qx:List Nat:=[0,1,2,4,5,10,38]
def A9g(p:Prog)(nm:A2):Aa prog 140 [Ct p,Bm nm] (A5 (findD nm p.decls 0)):=by
 refine C8.bd (Enters.of func140 rfl (by decide)) λa2=>?_;have a1:=B3y a2.1;have hl:=a1.decls.1;refine cB func140 ?_;refine sR Qx<|sK λK1 u1=>?_;have a0:∀sl bx,findD nm p.decls 0 = -1->K1 sl bx:=by intro sl bx h1;refine u1 _ _ (A0.ww (sl':=[]) (bx':=[]) trivial trivial ?_);clear u1 K1;refine sR Qx ?_;rw[h1];exact aR
 refine sR Qx ?_;refine A0.bb (A0.loop (X:=Nat) (λx=>[(5,A5 x),(1,Bm nm),(2,.box 2 0)]) (λ_=>[(2,.cells ((Aj p).map .d))])
  (λx=>x<=p.decls.length/\findD nm (p.decls.drop x) x=findD nm p.decls 0) (λx=>p.decls.length - x) 0 ?_ ?_ ?_ ?_)
 .exact⟨by simp,rfl⟩
 .exact sS
 .exact(by simp[ble,A7,Aj])
 rintro j ⟨hj,E⟩;by_cases W:(j:Int)<(p.decls.length:Int)
 .have U:j<p.decls.length:=by omega
  have Z:p.decls[j]?=some p.decls[j]:=Bi U;have dp:p.decls.drop j=p.decls[j]::p.decls.drop (j+1):=Gb U;generalize p.decls[j]=y at*;rw[dp,findD]at E;refine Ai W Qx λV u2=>?_;refine A0.tt rfl (A0.kk (u2 _ _ ?_));clear u2 V;refine sK λV u2=>A0.bb ?_;by_cases L:y.kind=1
  .by_cases O:y.name=nm
   ·(refine sQ Qx λK I=>?_;simp -implicitDefEqProofs only[EV,Nat.reduceEqDiff,reduceCtorEq,Ih,A1z,Xz,R8,])
    repeat (refine⟨by omega,Ar y,Dx Z,rfl,?_⟩;refine Fm L O ?_)
    (apply I;clear I K)
    have ht:y.Fv nm=true:=by simp[Decl.Fv,L,O]
    rw[A8 ht]at E;refine A0.tt rfl<|sR Qx ?_;rw[<-E];exact aR
   ·(refine sQ Qx λK I=>?_;simp -implicitDefEqProofs only[EV,Nat.reduceEqDiff,reduceCtorEq,Ih,A1z,Xz,R8,])
    repeat (refine⟨by omega,Ar y,Dx Z,rfl,?_⟩;refine Fm L O ?_)
    (apply I;clear I K)
    have ht:¬y.Fv nm=true:=by simp[Decl.Fv,L,O]
    rw[A6 ht]at E;refine A0.ff rfl (A0.kk ?_);simp only[A4,Ac];refine u2 _ _ ?_;clear u2 V
    (refine lQ Qx λK I=>?_;refine ev ?_)
    refine⟨by unfold B4;unfold lim at*;omega,?_⟩
    (apply I;clear I K;try simp only[A4,])
    exact⟨j+1,⟨by omega,E⟩,by omega,by simp[sle,Ay,Ae],(by simp[ble,A7,Aj])⟩
  .by_cases J:y.kind=2
   .by_cases O:y.name=nm
    ·(refine sQ Qx λK I=>?_;simp -implicitDefEqProofs only[EV,Nat.reduceEqDiff,reduceCtorEq,Ih,A1z,Xz,R8,])
     repeat (refine⟨by omega,Ar y,Dx Z,rfl,?_⟩;refine Fm J O ?_)
     (apply I;clear I K)
     have ht:y.Fv nm=true:=by simp[Decl.Fv,J,O]
     rw[A8 ht]at E;refine A0.tt rfl<|sR Qx ?_;rw[<-E];exact aR
    ·(refine sQ Qx λK I=>?_;simp -implicitDefEqProofs only[EV,Nat.reduceEqDiff,reduceCtorEq,Ih,A1z,Xz,R8,])
     repeat (refine⟨by omega,Ar y,Dx Z,rfl,?_⟩;refine Fm J O ?_)
     (apply I;clear I K)
     have ht:¬y.Fv nm=true:=by simp[Decl.Fv,J,O]
     rw[A6 ht]at E;refine A0.ff rfl (A0.kk ?_);simp only[A4,Ac];refine u2 _ _ ?_;clear u2 V
     (refine lQ Qx λK I=>?_;refine ev ?_)
     refine⟨by unfold B4;unfold lim at*;omega,?_⟩
     (apply I;clear I K;try simp only[A4,])
     exact⟨j+1,⟨by omega,E⟩,by omega,by simp[sle,Ay,Ae],(by simp[ble,A7,Aj])⟩
   ·(refine sQ Qx λK I=>?_;simp -implicitDefEqProofs only[EV,Nat.reduceEqDiff,reduceCtorEq,Ih,A1z,Xz,R8,])
    repeat (refine⟨by omega,Ar y,Dx Z,rfl,?_⟩;refine Fm L J ?_)
    (apply I;clear I K)
    have ht:¬y.Fv nm=true:=by simp[Decl.Fv,L,J]
    rw[A6 ht]at E;refine A0.ff rfl (A0.kk ?_);simp only[A4,Ac];refine u2 _ _ ?_;clear u2 V
    (refine lQ Qx λK I=>?_;refine ev ?_)
    refine⟨by unfold B4;unfold lim at*;omega,?_⟩
    (apply I;clear I K;try simp only[A4,])
    exact⟨j+1,⟨by omega,E⟩,by omega,by simp[sle,Ay,Ae],(by simp[ble,A7,Aj])⟩
 .refine Ai W Qx λV u2=>?_;refine A0.ff rfl (A0.xx ?_);simp only[A4,Ac,Af];rw[Ib (by omega),findD]at E;exact a0 _ _ E.symm
def kindOf(p:Prog)(nm:A2):Int:=match p.decls.find? (λd=>d.Fv nm)with
 |some d=>d.kind
 |none=>0
def B0n(nm:A2):∀(l:List Decl)(i:Nat),(findD nm l i = -1/\l.find? (λd=>d.Fv nm)=none)\/∃k d,l[k]?=some d/\findD nm l i=((i+k:Nat):Int)/\l.find? (λd=>d.Fv nm)=some d
 |[],i=>by simp[findD]
 |d::ds,i=>by
  simp only[findD,An2];split
  .rename_i h;exact .inr ⟨0,d,rfl,rfl,by simp[h]⟩
  .rename_i h;rcases B0n nm ds (i+1)with⟨I,E⟩|⟨k,L,I,E,J⟩
   .exact .inl ⟨I,by simp[h,E]⟩
   .exact .inr ⟨k+1,L,by simpa using I,by rw[E];congr 1;omega,by simp[h,J]⟩
abbrev q7n:List Nat:=[0,1,2,4,5,10]
def B0d(p:Prog)(nm:A2):Aa prog 138 [Ct p,Bm nm] (A5 (kindOf p nm)):=by
 refine C8.bd (Enters.of func138 rfl (by decide)) λO=>?_;have J:=B3y O.1;have hl:=J.decls.1;refine cB func138 ?_;refine sR q7n ?_;refine sC (A9g p nm) q7n<|sK λV u1=>?_;rcases B0n nm p.decls 0 with⟨I,L⟩|⟨k,d,I,L,W⟩
 .rw[I];have E:kindOf p nm=0:=by simp[kindOf,L]
  refine sR q7n ?_;refine A0.tt rfl<|sR q7n ?_;rw[E];exact aR
 .rw[L];have E:kindOf p nm=d.kind:=by simp[kindOf,W]
  have a0:¬((0+k:Nat):Int)<0:=by omega
  have Z:((0+k:Nat):Int).toNat=k:=by omega
  refine sR q7n ?_;refine A0.ff rfl (A0.kk (u1 _ _ ?_));clear u1 V
  (refine sQ q7n λK U=>?_;refine ev ?_)
  refine⟨by omega,Ar d,Dx I,rfl,?_⟩;refine ev ?_
  (apply U;clear U K)
  rw[E];exact aR
abbrev q8n:List Nat:=[0,1,4,5,9,17]
def A6y(l:List A2)(s:A2):Aa prog 192 [Cc l,Bm s] (Aw (decide (s∈l))):=by
 refine C8.bd (Enters.of func192 rfl (by decide)) λW=>?_;have hl:=(A5c W.1).1;refine cB func192 ?_;refine sR q8n<|sK λK1 u1=>?_;have V:∀sl bx,¬s∈l->K1 sl bx:=by intro sl bx h1;refine u1 _ _ (A0.ww (sl':=[]) (bx':=[]) trivial trivial ?_);clear u1 K1;refine sR q8n ?_;rw[C9 h1];exact aR
 refine sR q8n ?_;refine A0.bb (A0.loop (X:=Nat) (λx=>[(5,A5 x),(0,Cc l),(1,Bm s)]) (λ_=>[])
  (λx=>x<=l.length/\(s∈l↔s∈l.drop x)) (λx=>l.length - x) 0 ?_ ?_ ?_ ?_)
 .exact⟨by simp,by simp⟩
 .exact sS
 .exact sB
 rintro j ⟨hj,I⟩;by_cases L:(j:Int)<(l.length:Int)
 .have E:j<l.length:=by omega
  have Z:l[j]?=some l[j]:=Bi E;have a0:l[j]∈l:=Fq E;have dp:l.drop j=l[j]::l.drop (j+1):=Gb E;generalize l[j]=y at*;rw[dp,B1]at I;refine Ai L q8n λO u2=>?_;refine A0.tt rfl (A0.kk (u2 _ _ ?_));clear u2 O;refine sK λO u2=>A0.bb ?_;by_cases U:y=s
  ·(refine sQ q8n λK J=>?_;refine ev ?_)
   refine⟨by omega,_,Ko Z,rfl,?_⟩;refine Ap U ?_
   (apply J;clear J K)
   refine A0.tt rfl<|sR q8n ?_;rw[Bj (I.2 (.inl U.symm))];exact aR
  ·(refine sQ q8n λK J=>?_;refine ev ?_)
   refine⟨by omega,_,Ko Z,rfl,?_⟩;refine Ap U ?_
   (apply J;clear J K)
   refine A0.ff rfl (A0.kk ?_);simp only[A4,Ac];refine u2 _ _ ?_;clear u2 O
   (refine lQ q8n λK J=>?_;refine ev ?_)
   refine⟨by unfold B4;unfold lim at*;omega,?_⟩
   (apply J;clear J K;try simp only[A4,])
   exact⟨j+1,⟨by omega,by rw[I];exact⟨λh=>h.resolve_left (λh=>U h.symm),.inr⟩⟩,by omega,by simp[sle,Ay,Ae],sB⟩
 .refine Ai L q8n λO u2=>?_;refine A0.ff rfl (A0.xx ?_);simp only[A4,Ac,Af];rw[Ib (by omega)]at I;exact V _ _ (by rw[I];simp)
def Bt:A2->A2->Int
 |[],[]=>0
 |[],_::_=>-1
 |_::_,[]=>1
 |x::xs,y::ys=>if x<y then -1 else if y<x then 1 else Bt xs ys
abbrev P3:List Nat:=[0,1,4,5,15,24,31,36,41]
def B2w(a b:A2):Aa prog 95 [Bm a,Bm b] (A5 (Bt a b)):=by
 refine C8.bd (Enters.of func95 rfl (by decide)) λa0=>?_;have a3:=U6 a0.1;have a5:=U6 a0.2.1;refine cB func95 ?_;refine sR P3<|sK λZ u1=>?_;have a1:∀sl bx,sle sl [(0,Bm a),(1,Bm b)]->(Bt a b=if(a.length:Int)<b.length then -1 else if(b.length:Int)<a.length then 1 else 0)->Z sl bx:=by
  intro sl bx a2 hc;refine u1 _ _ (A0.ww (bx':=[]) a2 trivial ?_);clear u1 Z;refine sK λZ u1=>?_;by_cases h1:(a.length:Int)<b.length
  .refine Ak h1 P3 ?_;refine A0.tt rfl<|sR P3 ?_;rw[hc,A8 h1];exact aR
  .refine Ak h1 P3 ?_;refine A0.ff rfl (A0.kk (u1 _ _ ?_));clear u1 Z;refine sK λZ u1=>?_;by_cases h2:(b.length:Int)<a.length
   .refine Ak h2 P3 ?_;refine A0.tt rfl<|sR P3 ?_;rw[hc,A6 h1,A8 h2];exact aR
   .refine Ak h2 P3 ?_;refine A0.ff rfl (A0.kk (u1 _ _ ?_));clear u1 Z;refine sR P3 ?_;rw[hc,A6 h1,A6 h2];exact aR
 refine sR P3 ?_;refine A0.bb (A0.loop (X:=Nat) (λx=>[(5,A5 x),(0,Bm a),(1,Bm b)]) (λ_=>[])
  (λx=>x<=a.length/\x<=b.length/\Bt (a.drop x) (b.drop x)=Bt a b) (λx=>a.length - x) 0 ?_ ?_ ?_ ?_)
 .exact⟨by simp,by simp,rfl⟩
 .exact sS
 .exact sB
 rintro j ⟨hj,a4,E⟩;by_cases W:(j:Int)<(a.length:Int)
 .by_cases U:(j:Int)<(b.length:Int)
  .have O:j<a.length:=by omega
   have I:j<b.length:=by omega
   have hx:a[j]?=some a[j]:=Bi O;have hy:b[j]?=some b[j]:=Bi I;rw[Gb O,Gb I,Bt]at E;generalize a[j]=x at*;generalize b[j]=y at*;refine Ng W U P3 λK2 u2=>?_;refine A0.tt rfl (A0.kk (u2 _ _ ?_));clear u2 K2;refine sK λK2 u2=>A0.bb<|sK λK3 u3=>?_
   (refine sG P3 [] 6 [] λK V=>?_;refine ev ?_)
   refine⟨by omega,x,hx,by omega,y,hy,?_⟩
   (apply V;clear V K)
   have e1:∀u v:UInt8,(u.toNat:Int)<v.toNat↔u<v:=λu v=>by rw[Ak0];omega
   simp only[e1];by_cases J:x<y
   .rw[A8 J]at E;refine A0.tt (by simp[Ao,Ae,J])<|sR P3 ?_;rw[<-E];exact aR
   .rw[A6 J]at E;refine A0.ff (by simp[Ao,Ae,J]) (A0.kk ?_);simp only[A4,];refine u3 _ _ ?_;clear u3 K3
    (refine sG P3 [] 6 [] λK V=>?_;refine ev ?_)
    refine⟨by omega,x,hx,by omega,y,hy,?_⟩
    (apply V;clear V K)
    simp only[e1];by_cases L:y<x
    .rw[A8 L]at E;refine A0.tt (by simp[Ao,Ae,L])<|sR P3 ?_;rw[<-E];exact aR
    .rw[A6 L]at E;refine A0.ff (by simp[Ao,Ae,L]) (A0.kk ?_);simp only[A4,Ac];refine u2 _ _ ?_;clear u2 K2
     (refine lQ P3 λK V=>?_;refine ev ?_)
     refine⟨by unfold B4;unfold lim at*;omega,?_⟩
     (apply V;clear V K;try simp only[A4,])
     exact⟨j+1,⟨by omega,by omega,E⟩,by omega,by simp[sle,Ay,Ae],sB⟩
  .refine Ng W U P3 λK2 u2=>?_;refine A0.ff rfl (A0.xx ?_);simp only[A4,Ac,Af];have hd:b.drop j=[]:=Ib (by omega);rw[hd,Gb (show j<a.length by omega),Bt]at E;exact a1 _ _ sS (by rw[<-E,A6 (by omega),A8 (by omega)])
 .refine Ai W P3 λK2 u2=>?_;refine A0.ff rfl (A0.xx ?_);simp only[A4,Ac,Af];have hd:a.drop j=[]:=Ib (by omega);rw[hd]at E;refine a1 _ _ sS ?_;rw[<-E];by_cases hb:j<b.length
  .rw[Gb hb,Bt,A8 (by omega)]
  .rw[Ib (by omega),Bt,A6 (by omega),A6 (by omega)]
def ins(s:A2):List A2->List A2
 |[]=>[s]
 |x::xs=>if Bt s x<0 then s::x::xs else x::ins s xs
def Uy(l:List A2)(s:A2):List A2:=if s∈l then l else ins s l
def C4a(s:A2):∀l,(ins s l).length=l.length+1
 |[]=>rfl
 |x::xs=>by simp only[ins];split <;> simp[C4a s xs]
abbrev Mp:List Nat:=[0,1,4,5,6,7,10,15,28,41]
def G8a(l:List A2)(s:A2)(a2:l.length<=1000000):Aa prog 326 [Cc l,Bm s] (Cc (Uy l s)):=by
 refine cB func326 ?_;refine sR Mp ?_;refine kC (A6y l s) Mp λW u1=>?_;by_cases J:s∈l
 .refine A0.tt (by simp[Ao,Ae,J])<|sR Mp ?_;rw[Uy,A8 J];exact aR
 refine A0.ff (by simp[Ao,Ae,J]) (A0.kk (u1 _ _ ?_));clear u1 W;refine sR Mp ?_;refine sR Mp ?_;refine A0.pp 5 1 5 rfl<|sK λW u1=>?_;have a1:∀sl bx (b:Bool) r,sle sl [(1,Bm s),(5,.acc 5),(6,Aw b)]->ble bx [(5,.rows 1 (Bq r))]->r.length<=l.length+1->(if b then r else r++[s])=ins s l->W sl bx:=by
  intro sl bx b r h1 Z hr hb;refine u1 _ _ (A0.ww h1 Z ?_);clear u1 W h1 Z;refine kR Mp λW u1=>?_;cases b with
  |true =>refine A0.ff rfl (A0.kk (u1 _ _ ?_));clear u1 W;refine sR Mp ?_;simp only[Af]at hb;rw[Uy,A6 J,<-hb];exact aR
  |false =>
   refine A0.tt rfl ?_
   (refine lQ Mp λK I=>?_;refine ev ?_)
   refine⟨by simp,by unfold lim;omega,?_⟩
   (apply I;clear I K;try simp only[A4,])
   refine u1 _ _ ?_;clear u1 W;refine sR Mp ?_;have e:Bq r++[[D.str s]]=Bq (r++[s]):=by simp[Bq]
   simp only[I0,Fx]at hb;rw[Uy,A6 J,<-hb,e];exact aR
 refine sR Mp ?_;refine A0.bb (A0.loop (X:=Nat × Bool × List A2) (λx=>[(7,A5 x.1),(0,Cc l),(1,Bm s),(5,.acc 5),(6,Aw x.2.1)]) (λx=>[(5,.rows 1 (Bq x.2.2))])
  (λx=>x.1<=l.length/\x.2.2++(if x.2.1 then l.drop x.1 else ins s (l.drop x.1))=ins s l) (λx=>l.length - x.1) (0,false,[]) ?_ ?_ ?_ ?_)
 .exact⟨by simp,by simp⟩
 .exact sS
 .simp[ble,A7,Bq]
 rintro⟨j,b,r⟩ ⟨hj,E⟩;simp only at hj E;have O:=Gi List.length E;simp only[B6,C4a]at O;have V:r.length=if b then j+1 else j:=by
  cases b
  .simp only[I0,Fx,C4a,Ap1]at O |-;omega
  .simp only[Af,Ap1]at O |-;omega
 clear O;by_cases a0:(j:Int)<(l.length:Int)
 .have U:j<l.length:=by omega
  have hy:l[j]?=some l[j]:=Bi U;have dp:l.drop j=l[j]::l.drop (j+1):=Gb U;generalize l[j]=y at*;rw[dp]at E;refine Ai a0 Mp λK2 u2=>?_;refine A0.tt rfl (A0.kk (u2 _ _ ?_));clear u2 K2;refine sK λK2 u2=>A0.bb<|sK λK3 u3=>?_;have L:∀sl bx (b':Bool) r',sle sl [(7,A5 j),(0,Cc l),(1,Bm s),(5,.acc 5),(6,Aw b')]->ble bx [(5,.rows 1 (Bq r'))]->r'.length<=l.length->r'++y::(if b' then l.drop (j+1)else ins s (l.drop (j+1)))=ins s l->K3 sl bx:=by
   intro sl bx b' r' h1 Z a3 h3;refine u3 _ _ (A0.ww h1 Z ?_);clear u3 K3 h1 Z
   (refine lQ Mp λK I=>?_;refine ev ?_)
   refine⟨by omega,_,Ko hy,rfl,?_⟩;refine ev ?_;refine⟨by simp,by unfold lim;omega,?_⟩
   (apply I;clear I K;try simp only[A4,Ac])
   refine u2 _ _ ?_;clear u2 K2
   (refine lQ Mp λK I=>?_;refine ev ?_)
   refine⟨by unfold B4;omega,?_⟩
   (apply I;clear I K;try simp only[A4,])
   exact⟨(j+1,b',r'++[y]),⟨by simp only;omega,by simpa using h3⟩,by simp only;omega,by simp[sle,Ay,Ae],by simp[ble,A7,Bq]⟩
  clear u3 u2;cases b with
  |true =>simp only[Af]at E V;refine sR Mp ?_;refine A0.ff rfl (A0.kk ?_);simp only[A4,];exact L _ _ true r sS sB (by omega) E
  |false =>
   simp only[I0,Fx,ins]at E V
   (refine sQ Mp λK I=>?_;refine ev ?_)
   refine⟨by omega,_,Ko hy,rfl,?_⟩;refine ev ?_;refine⟨A5 (Bt s y),.inl ⟨_,rfl,B2w s y,rfl⟩,?_⟩;refine ev ?_
   (apply I;clear I K)
   by_cases hc:Bt s y<0
   .rw[A8 hc]at E;refine A0.tt (by simp[Ao,Ae,hc]) ?_;have a4:r.length<=l.length:=by omega
    have e:Bq r++[[D.str s]]=Bq (r++[s]):=by simp[Bq]
    (refine sQ Mp λK I=>?_;refine ev ?_)
    refine⟨by simp,by unfold lim;omega,?_⟩;rw[e]
    (apply I;clear I K)
    (refine lV Mp λK z=>?_;apply z;clear z K;try simp only[A4,])
    exact L _ _ true (r++[s]) sS sB (by simp only[B6,Bg,Ca];omega) (by simpa using E)
   .rw[A6 hc]at E;refine A0.ff (by simp[Ao,Ae,hc]) (A0.kk ?_);simp only[A4,];exact L _ _ false r sS sB (by omega) (by simpa using E)
 .refine Ai a0 Mp λK2 u2=>?_;refine A0.ff rfl (A0.xx ?_);simp only[A4,Ac,Af];rw[Ib (by omega)]at E;exact a1 _ _ b r sS sB (by cases b <;> simp only[Af,I0,Fx]at V <;> omega) (by rw[<-E];cases b <;> simp[ins])
end Go.Abs
