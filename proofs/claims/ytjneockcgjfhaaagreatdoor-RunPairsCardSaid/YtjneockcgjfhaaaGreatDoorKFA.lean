/- several texts in one -/
import Derived.Test.YtjneockcgjfhaaaGreatDoorKEV
set_option linter.all false
set_option maxHeartbeats 1000000
set_option maxRecDepth 100000
namespace Go.Abs
open Go Go.Proofs Tryz
mutual
def Ty.count:Ty->Int->Int
 |.mk n a _,k=>Ty.Cf a (k+1+((n.length / 50:Nat):Int))
def Ty.Cf:List Ty->Int->Int
 |[],k=>k
 |t::E,k=>if k<=2000 then Ty.Cf E (t.count k)else k
end
def Ty.count_eq(t:Ty)(k:Int):t.count k=Ty.Cf t.args (k+1+((t.name.length / 50:Nat):Int)):=by cases t;rfl
def cap:Int:=4611686018427387904
mutual
theorem Ty.K8:∀(t:Ty)(k:Int),t.Ok->k<=t.count k/\t.count k<=max k 2000+2814749767107
 |.mk n a p,k,h=>by have I:n.length<=lim:=h.name;have:=Ty.A6o a (k+1+((n.length / 50:Nat):Int)) (λt ht=>h.arg t ht);simp only[Ty.count];unfold lim at I;omega
theorem Ty.A6o:∀(l:List Ty)(k:Int),(∀t,t∈l->t.Ok)->k<=Ty.Cf l k/\Ty.Cf l k<=max k (2000+2814749767107)
 |[],k,_=>by simp only[Ty.Cf];omega
 |t::E,k,h=>by simp only[Ty.Cf];split;have L:=Ty.K8 t k (h t (by simp));have O:=Ty.A6o E (t.count k) (λu J=>h u (by simp[J]));omega;omega
end
abbrev q1p:List Nat:=[0,1,2,4,5,21]
def A2u:∀(t:Ty)(n:Int),0<=n->n<=cap->Ab prog 42 [Be t,A7 n] (A7 (t.count n)):=by
 intro t
 induction t using Ty.induct with
 |h t ih =>
 intro n h0 h1;refine Ch.bd (Enters.of func42 rfl (by decide)) λa2=>?_;have O:=D7j a2.1;have V:=O.name;have W:=O.len;have hq:t.name.length / 50<=2814749767106:=by unfold lim at V;omega
 refine cB func42 ?_;refine sR q1p ?_
 (refine sQ q1p λK J=>?_;refine ev ?_)
 refine⟨by unfold B7 cap at*;omega,(by first| (unfold B7;omega)| (simp only[B7,sm,lim]at*;omega)),by unfold B7 cap at*;omega,?_⟩
 (apply J;clear J K)
 refine kR q1p λK1 u1=>?_;refine A0.bb (A0.loop (X:=Nat × Int) (λx=>[(1,A7 x.2),(2,.box 2 0),(5,A7 x.1)]) (λ_=>[(2,.cells [.d (.str t.name),.d (.slice (Ag t.args)),.d (.int .i64 t.pos)])]) (λx=>x.1<=t.args.length/\0<=x.2/\x.2<=cap+2814749769108/\Ty.Cf (t.args.drop x.1) x.2=t.count n) (λx=>t.args.length - x.1) (0,n+1+((t.name.length / 50:Nat):Int)) ?_ ?_ ?_ ?_)
 .exact⟨by simp,by omega,by unfold cap at*;omega,by rw[Ty.count_eq];rfl⟩
 .simp[sle,Av,Af]
 .simp[ble,A8]
 rintro⟨i,m⟩ ⟨hi,Z,a1,E⟩;simp only at hi Z a1 E;have a0:∀z:Int,z=t.count n->K1 [(0,.undef),(1,A7 z),(2,.box 2 0),(4,.undef),(5,A7 i),(21,B1 false)] [(2,.cells [.d (.str t.name),.d (.slice (Ag t.args)),.d (.int .i64 t.pos)])]:=by rintro z rfl;refine u1 _ _<|sR q1p ?_;exact aR
 by_cases U:(i:Int)<(t.args.length:Int)
 .have I:i<t.args.length:=by omega
  have hx:t.args[i]?=some t.args[i]:=Br I;have L:t.args[i]∈t.args:=Gi I;have dp:t.args.drop i=t.args[i]::t.args.drop (i+1):=Gv I;generalize t.args[i]=x at*;rw[dp,Ty.Cf]at E;refine sK λK2 u2=>?_;by_cases hm:m<=2000
  .rw[A6 hm]at E;refine Er U hm q1p ?_;refine A0.tt rfl (A0.kk (u2 _ _ ?_));clear u2 K2;refine sK λK2 u2=>A0.bb ?_
   (refine lQ q1p λK J=>?_;refine ev ?_)
   refine⟨by omega,Bs x,Ev hx,rfl,?_⟩;simp -implicitDefEqProofs only[EV,Nat.reduceAdd,Nat.reduceEqDiff,reduceCtorEq,Bs];refine⟨A7 (x.count m),.inl ⟨_,rfl,ih x L m Z (by unfold cap;omega),rfl⟩,?_⟩;refine ev ?_
   (apply J;clear J K;try simp only[A5,A9])
   refine u2 _ _ ?_;clear u2 K2
   (refine lQ q1p λK J=>?_;refine ev ?_)
   refine⟨by unfold B7;unfold lim at W;omega,?_⟩
   (apply J;clear J K;try simp only[A5,])
   have hb:=Ty.K8 x m (O.arg x L);exact⟨(i+1,x.count m),⟨by simp only;omega,by simp only;omega,by simp only;unfold cap;omega,E⟩,by simp only;omega,by simp[sle,Av,Af],by simp[ble,A8]⟩
  .rw[A3 hm]at E;refine Er U hm q1p ?_;refine A0.ff rfl (A0.xx ?_);simp only[A5,A9,Ac];exact a0 m E
 .refine Ae U q1p λK2 u2=>?_;refine A0.ff rfl (A0.xx ?_);simp only[A5,A9,Ac];rw[Jf (by omega),Ty.Cf]at E;exact a0 m E
def Ry{n:Nat}(h:n<=lim):n / 50<=2814749767106:=by unfold lim at h;omega
mutual
def Ex.count:Ex->Int->Int
 |.mk _ nm t E ks _,n=>Ex.Cf ks (Ty.Cf E (t.count (n+((nm.length / 50:Nat):Int))))
def Ex.Cf:List Ex->Int->Int
 |[],n=>n
 |e::es,n=>if n<=2000 then Ex.Cf es (e.count n)else n
end
def Ex.count_eq(e:Ex)(n:Int):e.count n=Ex.Cf e.kids (Ty.Cf e.targs (e.type.count (n+((e.name.length / 50:Nat):Int)))):=by cases e;rfl
mutual
theorem Ex.K8:∀(e:Ex)(n:Int),e.Ok->n<=e.count n/\e.count n<=max n 2000+6000000000000
 |.mk k nm t I ks p,n,h=>by
  have E:=Ry h.name;have O:=Ty.K8 t (n+((nm.length / 50:Nat):Int)) h.type;have V:=Ty.A6o I (t.count (n+((nm.length / 50:Nat):Int))) h.targs.2;have Z:=Ex.A6o ks (Ty.Cf I (t.count (n+((nm.length / 50:Nat):Int)))) h.kids.2;have J:((nm.length / 50:Nat):Int)<=2814749767106:=by simp only[Ex.name]at E;omega
  simp only[Ex.count];have W:0<=((nm.length / 50:Nat):Int):=by omega
  generalize((nm.length / 50:Nat):Int)=q at*;omega
theorem Ex.A6o:∀(l:List Ex)(n:Int),(∀t,t∈l->t.Ok)->n<=Ex.Cf l n/\Ex.Cf l n<=max n (2000+6000000000000)
 |[],n,_=>by simp only[Ex.Cf];omega
 |t::L,n,h=>by simp only[Ex.Cf];split;have E:=Ex.K8 t n (h t (by simp));have O:=Ex.A6o L (t.count n) (λu U=>h u (by simp[U]));omega;omega
end
abbrev Rz:List Nat:=[0,1,2,4,5,6,24,42]
def C6p:∀(e:Ex)(n:Int),0<=n->n<=cap - 100000000000000->Ab prog 51 [Bg e,A7 n] (A7 (e.count n)):=by
 intro e
 induction e using Ex.induct with
 |h e ih =>
 intro n h0 h1;refine Ch.bd (Enters.of func51 rfl (by decide)) λa2=>?_;have J:=C8m a2.1;have hq:=Ry J.name;have ht:=Ty.K8 e.type (n+((e.name.length / 50:Nat):Int)) J.type;have a4:=Ty.A6o e.targs (e.type.count (n+((e.name.length / 50:Nat):Int))) J.targs.2;have a3:=J.targs.1;have a5:=J.kids.1;have a1:=Ex.count_eq e n;refine cB func51 ?_;refine sR Rz ?_
 (refine sQ Rz λK O=>?_;refine ev ?_)
 refine⟨(by first| (unfold B7;omega)| (simp only[B7,sm,lim]at*;omega)),by unfold B7 cap at*;omega,A7 (e.type.count (n+((e.name.length / 50:Nat):Int))),.inl ⟨_,rfl,A2u e.type _ (by omega) (by unfold cap at*;omega),rfl⟩,?_⟩;refine ev ?_
 (apply O;clear O K)
 generalize e.type.count (n+((e.name.length / 50:Nat):Int))=n1 at*;refine sK λK1 u1=>?_;have W:∀sl bx,sle sl [(1,A7 (Ty.Cf e.targs n1)),(2,.box 2 0)]->ble bx [(2,.cells ((Bp e).map .d))]->K1 sl bx:=by
  intro sl bx h1 h2;refine u1 _ _ (A0.ww h1 h2 ?_);clear u1 K1;generalize Ty.Cf e.targs n1=n2 at*;refine kR Rz λK1 u1=>?_;have W:∀sl bx,sle sl [(1,A7 (Ex.Cf e.kids n2))]->ble bx []->K1 sl bx:=by intro sl bx h1 h2;refine u1 _ _ (A0.ww h1 h2 ?_);refine sR Rz ?_;rw[a1];exact aR
  refine A0.bb (A0.loop (X:=Nat × Int) (λx=>[(1,A7 x.2),(6,A7 x.1),(2,.box 2 0)]) (λ_=>[(2,.cells ((Bp e).map .d))]) (λx=>x.1<=e.kids.length/\0<=x.2/\x.2<=cap+100000000000000/\Ex.Cf (e.kids.drop x.1) x.2=Ex.Cf e.kids n2) (λx=>e.kids.length - x.1) (0,n2) ?_ ?_ ?_ ?_);exact⟨by simp,by omega,by unfold cap at*;omega,by first|rfl|simp⟩;simp[sle,Av,Af];exact(by simp[ble,A8,Bp,]);rintro⟨i,m⟩ ⟨hi,V,a0,E⟩;simp only at hi V a0 E;by_cases L:(i:Int)<(e.kids.length:Int)
  .have I:i<e.kids.length:=by omega
   have hx:e.kids[i]?=some e.kids[i]:=Br I;have U:e.kids[i]∈e.kids:=Gi I;have dp:e.kids.drop i=e.kids[i]::e.kids.drop (i+1):=Gv I;generalize e.kids[i]=x at*;rw[dp,Ex.Cf]at E;refine sK λK2 u2=>?_;by_cases Z:m<=2000;rw[A6 Z]at E;refine Er L Z Rz ?_;refine A0.tt rfl (A0.kk (u2 _ _ ?_));clear u2 K2;refine sK λK2 u2=>A0.bb ?_;refine lQ Rz λK O=>?_;refine ev ?_;refine⟨by omega,Bp x,Ck hx,rfl,?_⟩;refine ev ?_;refine⟨A7 (x.count m),.inl ⟨_,rfl,ih x U m V (by unfold cap;omega),rfl⟩,?_⟩;refine ev ?_;(apply O;clear O K;try simp only[A5,A9]);refine u2 _ _ ?_;clear u2 K2;refine lQ Rz λK O=>?_;refine ev ?_;refine⟨by unfold B7;unfold lim at*;omega,?_⟩;(apply O;clear O K;try simp only[A5,]);have hb:=Ex.K8 x m (J.kids.2 x U);exact⟨(i+1,x.count m),⟨by simp only;omega,by simp only;omega,by simp only;unfold cap;omega,E⟩,by simp only;omega,by simp[sle,Av,Af],(by simp[ble,A8,Bp,])⟩;rw[A3 Z]at E;refine Er L Z Rz ?_;refine A0.ff rfl (A0.xx ?_);simp only[A5,A9,Ac];exact W _ _ (by simp[sle,Av,Af,E]) sB
  refine Ae L Rz λK2 u2=>?_;refine A0.ff rfl (A0.xx ?_);simp only[A5,A9,Ac];rw[Jf (by omega),Ex.Cf]at E;exact W _ _ (by simp[sle,Av,Af,E]) sB
 refine sR Rz ?_;refine A0.bb (A0.loop (X:=Nat × Int) (λx=>[(1,A7 x.2),(5,A7 x.1),(2,.box 2 0)]) (λ_=>[(2,.cells ((Bp e).map .d))]) (λx=>x.1<=e.targs.length/\0<=x.2/\x.2<=cap+100000000000000/\Ty.Cf (e.targs.drop x.1) x.2=Ty.Cf e.targs n1) (λx=>e.targs.length - x.1) (0,n1) ?_ ?_ ?_ ?_)
 .exact⟨by simp,by omega,by unfold cap at*;omega,by first|rfl|simp⟩
 .simp[sle,Av,Af]
 .exact(by simp[ble,A8,Bp,])
 rintro⟨i,m⟩ ⟨hi,V,a0,E⟩;simp only at hi V a0 E;by_cases L:(i:Int)<(e.targs.length:Int)
 .have I:i<e.targs.length:=by omega
  have hx:e.targs[i]?=some e.targs[i]:=Br I;have U:e.targs[i]∈e.targs:=Gi I;have dp:e.targs.drop i=e.targs[i]::e.targs.drop (i+1):=Gv I;generalize e.targs[i]=x at*;rw[dp,Ty.Cf]at E;refine sK λK2 u2=>?_;by_cases Z:m<=2000
  .rw[A6 Z]at E;refine Er L Z Rz ?_;refine A0.tt rfl (A0.kk (u2 _ _ ?_));clear u2 K2;refine sK λK2 u2=>A0.bb ?_
   (refine lQ Rz λK O=>?_;refine ev ?_)
   (refine⟨by omega,Bs x,Ev hx,rfl,?_⟩;refine ev ?_;refine⟨A7 (x.count m),.inl ⟨_,rfl,A2u x m V (by unfold cap;omega),rfl⟩,?_⟩;refine ev ?_)
   (apply O;clear O K;try simp only[A5,A9])
   refine u2 _ _ ?_;clear u2 K2
   (refine lQ Rz λK O=>?_;refine ev ?_)
   refine⟨by unfold B7;unfold lim at*;omega,?_⟩
   (apply O;clear O K;try simp only[A5,])
   have hb:=Ty.K8 x m (J.targs.2 x U);exact⟨(i+1,x.count m),⟨by simp only;omega,by simp only;omega,by simp only;unfold cap;omega,E⟩,by simp only;omega,by simp[sle,Av,Af],(by simp[ble,A8,Bp,])⟩
  .rw[A3 Z]at E;refine Er L Z Rz ?_;refine A0.ff rfl (A0.xx ?_);simp only[A5,A9,Ac];exact W _ _ (by simp[sle,Av,Af,E]) (by simp[ble,A8,Bp,])
 .refine Ae L Rz λK2 u2=>?_;refine A0.ff rfl (A0.xx ?_);simp only[A5,A9,Ac];rw[Jf (by omega),Ty.Cf]at E;exact W _ _ (by simp[sle,Av,Af,E]) (by simp[ble,A8,Bp,])
def Ca:List Ak->Int->Int
 |[],n=>n
 |f::fs,n=>if n<=2000 then Ca fs (f.bound.count (n+1+((f.name.length / 50:Nat):Int)))else n
def D4:List Param->Int->Int
 |[],n=>n
 |f::fs,n=>if n<=2000 then D4 fs (f.type.count (n+1+((f.name.length / 50:Nat):Int)))else n
def D2c(f:Ak)(n:Int)(h:f.Ok):n<=f.bound.count (n+1+((f.name.length / 50:Nat):Int))/\f.bound.count (n+1+((f.name.length / 50:Nat):Int))<=max n 2000+6000000000000:=by have E:=Ry h.name;have I:=Ty.K8 f.bound (n+1+((f.name.length / 50:Nat):Int)) h.bound;omega
def D8n(f:Param)(n:Int)(h:f.Ok):n<=f.type.count (n+1+((f.name.length / 50:Nat):Int))/\f.type.count (n+1+((f.name.length / 50:Nat):Int))<=max n 2000+6000000000000:=by have E:=Ry h.name;have I:=Ty.K8 f.type (n+1+((f.name.length / 50:Nat):Int)) h.type;omega
def B4g:∀(l:List Ak)(n:Int),(∀t,t∈l->t.Ok)->n<=Ca l n/\Ca l n<=max n (2000+6000000000000)
 |[],n,_=>by simp only[Ca];omega
 |t::I,n,h=>by simp only[Ca];split;have J:=D2c t n (h t (by simp));have L:=B4g I (t.bound.count (n+1+((t.name.length / 50:Nat):Int))) (λu E=>h u (by simp[E]));omega;omega
def B0y:∀(l:List Param)(n:Int),(∀t,t∈l->t.Ok)->n<=D4 l n/\D4 l n<=max n (2000+6000000000000)
 |[],n,_=>by simp only[D4];omega
 |t::I,n,h=>by simp only[D4];split;have J:=D8n t n (h t (by simp));have L:=B0y I (t.type.count (n+1+((t.name.length / 50:Nat):Int))) (λu E=>h u (by simp[E]));omega;omega
abbrev q3p:List Nat:=[0,1,4,5,13]
def E3z(l:List Ak)(n:Int)(h0:0<=n)(h1:n<=cap - 100000000000000):Ab prog 79 [.d (.slice (Ax l)),A7 n] (A7 (Ca l n)):=by
 refine Ch.bd (Enters.of func79 rfl (by decide)) λa2=>?_;have L:=B1u a2.1;have hl:=L.1;refine cB func79 ?_;refine sR q3p<|sK λK1 u1=>?_;have V:∀sl bx,sle sl [(1,A7 (Ca l n))]->ble bx []->K1 sl bx:=by intro sl bx h1 h2;refine u1 _ _ (A0.ww h1 h2 ?_);clear u1 K1;refine sR q3p ?_;exact aR
 refine sR q3p ?_;refine A0.bb (A0.loop (X:=Nat × Int) (λx=>[(1,A7 x.2),(5,A7 x.1),(0,.d (.slice (Ax l)))]) (λ_=>[]) (λx=>x.1<=l.length/\0<=x.2/\x.2<=cap+100000000000000/\Ca (l.drop x.1) x.2=Ca l n) (λx=>l.length - x.1) (0,n) ?_ ?_ ?_ ?_);exact⟨by simp,by omega,by unfold cap at*;omega,by first|rfl|simp⟩;simp[sle,Av,Af];exact sB;rintro⟨i,m⟩ ⟨hi,a1,a0,E⟩;simp only at hi a1 a0 E;by_cases O:(i:Int)<(l.length:Int)
 .have I:i<l.length:=by omega
  have hx:l[i]?=some l[i]:=Br I;have J:l[i]∈l:=Gi I;have dp:l.drop i=l[i]::l.drop (i+1):=Gv I;generalize l[i]=x at*;rw[dp,Ca]at E;refine sK λZ u2=>?_;by_cases W:m<=2000;rw[A6 W]at E;refine Er O W q3p ?_;refine A0.tt rfl (A0.kk (u2 _ _ ?_));clear u2 Z;refine sK λZ u2=>A0.bb ?_;refine lG q3p [] 15 [] λK U=>?_;simp -implicitDefEqProofs only[EV,Nat.reduceAdd,Nat.reduceEqDiff,reduceCtorEq,Hy,A5y,D9c];have hq:=Ry (L.2 x J).name;refine⟨by omega,Gs x,Fc hx,rfl,?_⟩;refine ev ?_;refine⟨by unfold B7 cap at*;omega,by omega,Gs x,Fc hx,rfl,?_⟩;refine ev ?_;refine⟨(by first| (unfold B7;omega)| (simp only[B7,sm,lim]at*;omega)),by unfold B7 cap at*;omega,A7 (x.bound.count (m+1+((x.name.length / 50:Nat):Int))),.inl ⟨_,rfl,A2u _ _ (by omega) (by unfold cap at*;omega),rfl⟩,?_⟩;refine ev ?_;(apply U;clear U K;try simp only[A5,A9]);refine u2 _ _ ?_;clear u2 Z;refine lQ q3p λK U=>?_;refine ev ?_;refine⟨by unfold B7;unfold lim at*;omega,?_⟩;(apply U;clear U K;try simp only[A5,]);have hb:=D2c x m (L.2 x J);exact⟨(i+1,x.bound.count (m+1+((x.name.length / 50:Nat):Int))),⟨by simp only;omega,by simp only;omega,by simp only;unfold cap;omega,E⟩,by simp only;omega,by simp[sle,Av,Af],sB⟩;rw[A3 W]at E;refine Er O W q3p ?_;refine A0.ff rfl (A0.xx ?_);simp only[A5,A9,Ac];exact V _ _ (by simp[sle,Av,Af,E]) sB
 refine Ae O q3p λZ u2=>?_;refine A0.ff rfl (A0.xx ?_);simp only[A5,A9,Ac];rw[Jf (by omega),Ca]at E;exact V _ _ (by simp[sle,Av,Af,E]) sB
abbrev q4p:List Nat:=[0,1,4,5,13]
def E6v(l:List Param)(n:Int)(h0:0<=n)(h1:n<=cap - 100000000000000):Ab prog 78 [.d (.slice (Ay l)),A7 n] (A7 (D4 l n)):=by
 refine Ch.bd (Enters.of func78 rfl (by decide)) λa2=>?_;have L:=B2a a2.1;have hl:=L.1;refine cB func78 ?_;refine sR q4p<|sK λK1 u1=>?_;have V:∀sl bx,sle sl [(1,A7 (D4 l n))]->ble bx []->K1 sl bx:=by intro sl bx h1 h2;refine u1 _ _ (A0.ww h1 h2 ?_);clear u1 K1;refine sR q4p ?_;exact aR
 refine sR q4p ?_;refine A0.bb (A0.loop (X:=Nat × Int) (λx=>[(1,A7 x.2),(5,A7 x.1),(0,.d (.slice (Ay l)))]) (λ_=>[]) (λx=>x.1<=l.length/\0<=x.2/\x.2<=cap+100000000000000/\D4 (l.drop x.1) x.2=D4 l n) (λx=>l.length - x.1) (0,n) ?_ ?_ ?_ ?_);exact⟨by simp,by omega,by unfold cap at*;omega,by first|rfl|simp⟩;simp[sle,Av,Af];exact sB;rintro⟨i,m⟩ ⟨hi,a1,a0,E⟩;simp only at hi a1 a0 E;by_cases O:(i:Int)<(l.length:Int)
 .have I:i<l.length:=by omega
  have hx:l[i]?=some l[i]:=Br I;have J:l[i]∈l:=Gi I;have dp:l.drop i=l[i]::l.drop (i+1):=Gv I;generalize l[i]=x at*;rw[dp,D4]at E;refine sK λZ u2=>?_;by_cases W:m<=2000;rw[A6 W]at E;refine Er O W q4p ?_;refine A0.tt rfl (A0.kk (u2 _ _ ?_));clear u2 Z;refine sK λZ u2=>A0.bb ?_;refine lG q4p [] 15 [] λK U=>?_;simp -implicitDefEqProofs only[EV,Nat.reduceAdd,Nat.reduceEqDiff,reduceCtorEq,Hy,A0c,A2w];have hq:=Ry (L.2 x J).name;refine⟨by omega,E9 x,Dx hx,rfl,?_⟩;refine ev ?_;refine⟨by unfold B7 cap at*;omega,by omega,E9 x,Dx hx,rfl,?_⟩;refine ev ?_;refine⟨(by first| (unfold B7;omega)| (simp only[B7,sm,lim]at*;omega)),by unfold B7 cap at*;omega,A7 (x.type.count (m+1+((x.name.length / 50:Nat):Int))),.inl ⟨_,rfl,A2u _ _ (by omega) (by unfold cap at*;omega),rfl⟩,?_⟩;refine ev ?_;(apply U;clear U K;try simp only[A5,A9]);refine u2 _ _ ?_;clear u2 Z;refine lQ q4p λK U=>?_;refine ev ?_;refine⟨by unfold B7;unfold lim at*;omega,?_⟩;(apply U;clear U K;try simp only[A5,]);have hb:=D8n x m (L.2 x J);exact⟨(i+1,x.type.count (m+1+((x.name.length / 50:Nat):Int))),⟨by simp only;omega,by simp only;omega,by simp only;unfold cap;omega,E⟩,by simp only;omega,by simp[sle,Av,Af],sB⟩;rw[A3 W]at E;refine Er O W q4p ?_;refine A0.ff rfl (A0.xx ?_);simp only[A5,A9,Ac];exact V _ _ (by simp[sle,Av,Af,E]) sB
 refine Ae O q4p λZ u2=>?_;refine A0.ff rfl (A0.xx ?_);simp only[A5,A9,Ac];rw[Jf (by omega),D4]at E;exact V _ _ (by simp[sle,Av,Af,E]) sB
def A4.count(s:A4)(n:Int):Int:=s.result.count (D4 s.params (Ca s.A1 (n+((s.name.length / 50:Nat):Int))))
def A4.K8(s:A4)(n:Int)(h:s.Ok):n<=s.count n/\s.count n<=max n 2000+10000000000000:=by have E:=Ry h.name;have J:=B4g s.A1 (n+((s.name.length / 50:Nat):Int)) h.A1.2;have L:=B0y s.params (Ca s.A1 (n+((s.name.length / 50:Nat):Int))) h.params.2;have I:=Ty.K8 s.result (D4 s.params (Ca s.A1 (n+((s.name.length / 50:Nat):Int)))) h.result;unfold A4.count;omega
def E2h(s:A4)(n:Int)(U:0<=n)(J:n<=cap - 200000000000000):Ab prog 80 [E0 s,A7 n] (A7 (s.count n)):=by refine Ch.bd (Enters.of func80 rfl (by decide)) λE=>?_;have h:=F6j E.1;have O:=Ry h.name;have V:=B4g s.A1 (n+((s.name.length / 50:Nat):Int)) h.A1.2;have L:=B0y s.params (Ca s.A1 (n+((s.name.length / 50:Nat):Int))) h.params.2;refine cB func80 ?_;refine sR [0,1,2,4] ?_;refine sG [0,1,2,4] [] 14 [] λK I=>?_;refine ev ?_;refine⟨(by first| (unfold B7;omega)| (simp only[B7,sm,lim]at*;omega)),by unfold B7 cap at*;omega,A7 (Ca s.A1 (n+((s.name.length / 50:Nat):Int))),.inl ⟨_,rfl,E3z _ _ (by omega) (by unfold cap at*;omega),rfl⟩,?_⟩;refine ev ?_;refine⟨A7 (D4 s.params (Ca s.A1 (n+((s.name.length / 50:Nat):Int)))),.inl ⟨_,rfl,E6v _ _ (by omega) (by unfold cap at*;omega),rfl⟩,?_⟩;refine ev ?_;refine⟨A7 (s.count n),.inl ⟨_,rfl,A2u _ _ (by omega) (by unfold cap at*;omega),rfl⟩,?_⟩;refine ev ?_;apply I;clear I K;exact aR
def Ja:List A2->Int->Int
 |[],n=>n
 |v::vs,n=>if n<=2000 then Ja vs (n+1+((v.length / 50:Nat):Int))else n
def Eh:List A4->Int->Int
 |[],n=>n
 |s::ss,n=>if n<=2000 then Eh ss (s.count n)else n
def Decl.Si(d:Decl)(n:Int):Int:=if n<=2000 then d.body.count (d.sig.count n)else n
def Decl.count(d:Decl)(n:Int):Int :=d.Si (Ja d.vars (Eh d.sigs (D4 d.fields (Ca d.A1 (n+1+((d.name.length / 50:Nat):Int)+((d.recv.length / 50:Nat):Int))))))
def Jt:List Decl->Int->Int
 |[],n=>n
 |d::ds,n=>if n<=2000 then Jt ds (d.count n)else n
def Prog.count(p:Prog):Int:=Jt p.decls (p.main.count 0)
def C8n:∀(l:List A2)(n:Int),(∀t,t∈l->t.length<=lim)->n<=Ja l n/\Ja l n<=max n (2000+6000000000000)
 |[],n,_=>by simp only[Ja];omega
 |t::I,n,h=>by simp only[Ja];split;have J:=Ry (h t (by simp));have L:=C8n I (n+1+((t.length / 50:Nat):Int)) (λu E=>h u (by simp[E]));omega;omega
def C8j:∀(l:List A4)(n:Int),(∀t,t∈l->t.Ok)->n<=Eh l n/\Eh l n<=max n (2000+10000000000000)
 |[],n,_=>by simp only[Eh];omega
 |t::I,n,h=>by simp only[Eh];split;have J:=A4.K8 t n (h t (by simp));have L:=C8j I (t.count n) (λu E=>h u (by simp[E]));omega;omega
def Decl.F9c(d:Decl)(n:Int)(h:d.Ok):n<=d.Si n/\d.Si n<=max n (2000+20000000000000):=by have E:=A4.K8 d.sig n h.sig;have I:=Ex.K8 d.body (d.sig.count n) h.body;unfold Decl.Si;split <;> omega
def Decl.K8(d:Decl)(n:Int)(h:d.Ok):n<=d.count n/\d.count n<=max n 2000+30000000000000:=by have E:=Ry h.name;have W:=Ry h.recv;unfold Decl.count;generalize L:n+1+((d.name.length / 50:Nat):Int)+((d.recv.length / 50:Nat):Int)=n0;have J:=B4g d.A1 n0 h.A1.2;have V:=B0y d.fields (Ca d.A1 n0) h.fields.2;have O:=C8j d.sigs (D4 d.fields (Ca d.A1 n0)) h.sigs.2;have I:=C8n d.vars (Eh d.sigs (D4 d.fields (Ca d.A1 n0))) h.vars.2;have U:=Decl.F9c d (Ja d.vars (Eh d.sigs (D4 d.fields (Ca d.A1 n0)))) h;omega
abbrev K9:List Nat:=[0,1,2,3,4,5,6,7,19,53,71,85]
set_option maxHeartbeats 2000000 in
def F5u(p:Prog):Ab prog 31 [Cq p] (A7 p.count):=by
 refine Ch.bd (Enters.of func31 rfl (by decide)) λa9=>?_;have a6:=B4j a9.1;have he:=Ex.K8 p.main 0 a6.main;have hl:=a6.decls.1;have a2:p.count=Jt p.decls (p.main.count 0):=rfl;refine cB func31 ?_;refine sR K9 ?_;refine sQ K9 λK L=>?_;refine ev ?_;refine⟨A7 (p.main.count 0),.inl ⟨_,rfl,C6p _ 0 (by omega) (by unfold cap;omega),rfl⟩,?_⟩;refine ev ?_;apply L;clear L K;generalize p.main.count 0=n1 at*;refine sK λK1 u1=>?_;have V:∀sl bx,sle sl [(3,A7 (Jt p.decls n1))]->ble bx []->K1 sl bx:=by intro sl bx h1 h2;refine u1 _ _ (A0.ww h1 h2 ?_);clear u1 K1;refine sR K9 ?_;rw[a2];exact aR
 refine sR K9 ?_;refine A0.bb (A0.loop (X:=Nat × Int) (λx=>[(3,A7 x.2),(4,A7 x.1),(1,.box 1 0)]) (λ_=>[(1,.cells ((Ai p).map .d))]) (λx=>x.1<=p.decls.length/\0<=x.2/\x.2<=100000000000000/\Jt (p.decls.drop x.1) x.2=Jt p.decls n1) (λx=>p.decls.length - x.1) (0,n1) ?_ ?_ ?_ ?_);exact⟨by simp,by omega,by omega,by first|rfl|simp⟩;exact sS;exact(by simp[ble,A8,Ai]);rintro⟨j,k⟩ ⟨hj,a8,a7,E⟩;simp only at hj a8 a7 E;by_cases U:(j:Int)<(p.decls.length:Int)
 .have J:j<p.decls.length:=by omega
  have hy:p.decls[j]?=some p.decls[j]:=Br J;have a5:p.decls[j]∈p.decls:=Gi J;have dp:p.decls.drop j=p.decls[j]::p.decls.drop (j+1):=Gv J;generalize p.decls[j]=y at*;have I:=a6.decls.2 y a5;rw[dp,Jt]at E;refine sK λW u2=>?_;by_cases Z:k<=2000
  .rw[A6 Z]at E;refine Er U Z K9 ?_;refine A0.tt rfl (A0.kk (u2 _ _ ?_));clear u2 W;refine sK λW u2=>?_;have V:∀sl bx,sle sl [(3,A7 (y.count k)),(4,A7 j),(1,.box 1 0)]->ble bx [(1,.cells ((Ai p).map .d))]->W sl bx:=by intro sl bx h1 h2;refine u2 _ _ (A0.ww h1 h2 ?_);clear u2 W;refine lQ K9 λK L=>?_;refine ev ?_;refine⟨by unfold B7;unfold lim at*;omega,?_⟩;(apply L;clear L K;try simp only[A5,]);have hb:=Decl.K8 y k I;exact⟨(j+1,y.count k),⟨by simp only;omega,by simp only;omega,by simp only;omega,E⟩,by simp only;omega,by simp[sle,Av,Af],(by simp[ble,A8,Ai])⟩
   clear u2;have a1:y.count k=y.Si (Ja y.vars (Eh y.sigs (D4 y.fields (Ca y.A1 (k+1+((y.name.length / 50:Nat):Int)+((y.recv.length / 50:Nat):Int)))))):=rfl;generalize y.count k=res at*;have ab:=Ry I.name;have ae:=Ry I.recv;refine A0.bb ?_;refine sQ K9 λK L=>?_;refine ev ?_;refine⟨by omega,B3 y,Ek hy,rfl,?_⟩;refine ev ?_;apply L;clear L K;refine sG K9 [] 17 [] λK L=>?_;simp -implicitDefEqProofs only[EV,Nat.reduceAdd,Nat.reduceEqDiff,Int.reduceEq,reduceCtorEq,E1,A5y,A0c,Zb,];generalize af:k+1+((y.name.length / 50:Nat):Int)+((y.recv.length / 50:Nat):Int)=n2 at*;have h3:=B4g y.A1 n2 I.A1.2;have h4:=B0y y.fields (Ca y.A1 n2) I.fields.2;refine⟨(by first| (unfold B7;omega)| (simp only[B7,sm,lim]at*;omega)),(by first| (unfold B7;omega)| (simp only[B7,sm,lim]at*;omega)),(by first| (unfold B7;omega)| (simp only[B7,sm,lim]at*;omega)),(by first| (unfold B7;omega)| (simp only[B7,sm,lim]at*;omega)),(by first| (unfold B7;omega)| (simp only[B7,sm,lim]at*;omega)),A7 (Ca y.A1 n2),.inl ⟨_,rfl,E3z _ _ (by omega) (by unfold cap;omega),rfl⟩,?_⟩;refine ev ?_;refine⟨A7 (D4 y.fields (Ca y.A1 n2)),.inl ⟨_,rfl,E6v _ _ (by omega) (by unfold cap;omega),rfl⟩,?_⟩;refine ev ?_;apply L;clear L K
   generalize ad:D4 y.fields (Ca y.A1 n2)=n3 at*;have a':=I.sigs.1;have ac:=I.vars.1;have h5:=C8j y.sigs n3 I.sigs.2;have h6:=C8n y.vars (Eh y.sigs n3) I.vars.2;have aa:=A4.K8 y.sig (Ja y.vars (Eh y.sigs n3)) I.sig;have ai:=Ex.K8 y.body (y.sig.count (Ja y.vars (Eh y.sigs n3))) I.body;refine sK λK3 u3=>?_;have V:∀sl bx,sle sl [(3,A7 (Eh y.sigs n3)),(4,A7 j),(1,.box 1 0),(5,.box 5 0)]->ble bx [(1,.cells ((Ai p).map .d)),(5,.cells ((B3 y).map .d))]->K3 sl bx:=by
    intro sl bx h1 h2;refine u3 _ _ (A0.ww h1 h2 ?_);clear u3 K3;generalize ag:Eh y.sigs n3=n4 at*;refine sK λK3 u3=>?_;have V:∀sl bx,sle sl [(3,A7 (Ja y.vars n4)),(4,A7 j),(1,.box 1 0),(5,.box 5 0)]->ble bx [(1,.cells ((Ai p).map .d)),(5,.cells ((B3 y).map .d))]->K3 sl bx:=by intro sl bx h1 h2;refine u3 _ _ (A0.ww h1 h2 ?_);clear u3 K3;generalize ah:Ja y.vars n4=n5 at*;refine sR K9 ?_;unfold Decl.Si at a1;by_cases O:n5<=2000;rw[A6 O]at a1;refine A0.tt (by simp[Ao,Af,O]) ?_;refine lG K9 [] 6 [] λK L=>?_;refine Ah O ?_;refine⟨A7 (y.sig.count n5),.inl ⟨_,rfl,E2h _ _ (by omega) (by unfold cap;omega),rfl⟩,?_⟩;refine ev ?_;refine⟨A7 (y.body.count (y.sig.count n5)),.inl ⟨_,rfl,C6p _ _ (by omega) (by unfold cap;omega),rfl⟩,?_⟩;refine ev ?_;(apply L;clear L K;try simp only[A5,A9]);exact V _ _ (by simp[sle,Av,Af,a1]) (by simp[ble,A8,Ai]);rw[A3 O]at a1;refine A0.ff (by simp[Ao,Af,O]) (A0.kk ?_);simp only[A5,A9];exact V _ _ (by simp[sle,Av,Af,a1]) (by simp[ble,A8,Ai])
    refine sR K9 ?_;refine A0.bb (A0.loop (X:=Nat × Int) (λx=>[(3,A7 x.2),(7,A7 x.1),(4,A7 j),(1,.box 1 0),(5,.box 5 0)]) (λ_=>[(1,.cells ((Ai p).map .d)),(5,.cells ((B3 y).map .d))]) (λx=>x.1<=y.vars.length/\0<=x.2/\x.2<=cap+100000000000000/\Ja (y.vars.drop x.1) x.2=Ja y.vars n4) (λx=>y.vars.length - x.1) (0,n4) ?_ ?_ ?_ ?_);exact⟨by simp,by omega,by unfold cap at*;omega,by first|rfl|simp⟩;simp[sle,Av,Af];exact(by simp[ble,A8,B3,Ai]);rintro⟨i,m⟩ ⟨hi,a3,a4,E⟩;simp only at hi a3 a4 E;by_cases U:(i:Int)<(y.vars.length:Int)
    .have J:i<y.vars.length:=by omega
     have hx:y.vars[i]?=some y.vars[i]:=Br J;have a0:y.vars[i]∈y.vars:=Gi J;have dp:y.vars.drop i=y.vars[i]::y.vars.drop (i+1):=Gv J;generalize y.vars[i]=x at*;rw[dp,Ja]at E;refine sK λW u2=>?_;by_cases Z:m<=2000;rw[A6 Z]at E;refine Er U Z K9 ?_;refine A0.tt rfl (A0.kk (u2 _ _ ?_));clear u2 W;refine sK λW u2=>A0.bb ?_;refine lQ K9 λK L=>?_;simp -implicitDefEqProofs only[EV,Nat.reduceEqDiff,reduceCtorEq,E1,Xd,Zb,];have hq:=Ry (I.vars.2 x a0);refine⟨(by first| (unfold B7;omega)| (simp only[B7,sm,lim]at*;omega)),by omega,_,J7 hx,rfl,?_⟩;refine ev ?_;refine⟨(by first| (unfold B7;omega)| (simp only[B7,sm,lim]at*;omega)),by unfold B7 cap at*;omega,?_⟩;(apply L;clear L K;try simp only[A5,A9]);refine u2 _ _ ?_;clear u2 W;refine lQ K9 λK L=>?_;refine ev ?_;refine⟨by unfold B7;unfold lim at*;omega,?_⟩;(apply L;clear L K;try simp only[A5,]);have hb:=Ry (I.vars.2 x a0);exact⟨(i+1,m+1+((x.length / 50:Nat):Int)),⟨by simp only;omega,by simp only;omega,by simp only;unfold cap;omega,E⟩,by simp only;omega,by simp[sle,Av,Af],(by simp[ble,A8,B3,Ai])⟩;rw[A3 Z]at E;refine Er U Z K9 ?_;refine A0.ff rfl (A0.xx ?_);simp only[A5,A9,Ac];exact V _ _ (by simp[sle,Av,Af,E]) (by simp[ble,A8,B3,Ai])
    refine Ae U K9 λW u2=>?_;refine A0.ff rfl (A0.xx ?_);simp only[A5,A9,Ac];rw[Jf (by omega),Ja]at E;exact V _ _ (by simp[sle,Av,Af,E]) (by simp[ble,A8,B3,Ai])
   refine sR K9 ?_;refine A0.bb (A0.loop (X:=Nat × Int) (λx=>[(3,A7 x.2),(6,A7 x.1),(4,A7 j),(1,.box 1 0),(5,.box 5 0)]) (λ_=>[(1,.cells ((Ai p).map .d)),(5,.cells ((B3 y).map .d))]) (λx=>x.1<=y.sigs.length/\0<=x.2/\x.2<=cap+100000000000000/\Eh (y.sigs.drop x.1) x.2=Eh y.sigs n3) (λx=>y.sigs.length - x.1) (0,n3) ?_ ?_ ?_ ?_);exact⟨by simp,by omega,by unfold cap at*;omega,by first|rfl|simp⟩;simp[sle,Av,Af];exact(by simp[ble,A8,B3,Ai]);rintro⟨i,m⟩ ⟨hi,a3,a4,E⟩;simp only at hi a3 a4 E;by_cases U:(i:Int)<(y.sigs.length:Int)
   .have J:i<y.sigs.length:=by omega
    have hx:y.sigs[i]?=some y.sigs[i]:=Br J;have a0:y.sigs[i]∈y.sigs:=Gi J;have dp:y.sigs.drop i=y.sigs[i]::y.sigs.drop (i+1):=Gv J;generalize y.sigs[i]=x at*;rw[dp,Eh]at E;refine sK λW u2=>?_;by_cases Z:m<=2000;rw[A6 Z]at E;refine Er U Z K9 ?_;refine A0.tt rfl (A0.kk (u2 _ _ ?_));clear u2 W;refine sK λW u2=>A0.bb ?_;refine lQ K9 λK L=>?_;refine ev ?_;refine⟨by omega,Dm x,De hx,rfl,?_⟩;refine ev ?_;refine⟨A7 (x.count m),.inl ⟨_,rfl,E2h x m a3 (by unfold cap;omega),rfl⟩,?_⟩;refine ev ?_;(apply L;clear L K;try simp only[A5,A9]);refine u2 _ _ ?_;clear u2 W;refine lQ K9 λK L=>?_;refine ev ?_;refine⟨by unfold B7;unfold lim at*;omega,?_⟩;(apply L;clear L K;try simp only[A5,]);have hb:=A4.K8 x m (I.sigs.2 x a0);exact⟨(i+1,x.count m),⟨by simp only;omega,by simp only;omega,by simp only;unfold cap;omega,E⟩,by simp only;omega,by simp[sle,Av,Af],(by simp[ble,A8,B3,Ai])⟩;rw[A3 Z]at E;refine Er U Z K9 ?_;refine A0.ff rfl (A0.xx ?_);simp only[A5,A9,Ac];exact V _ _ (by simp[sle,Av,Af,E]) (by simp[ble,A8,B3,Ai])
   refine Ae U K9 λW u2=>?_;refine A0.ff rfl (A0.xx ?_);simp only[A5,A9,Ac];rw[Jf (by omega),Eh]at E;exact V _ _ (by simp[sle,Av,Af,E]) (by simp[ble,A8,B3,Ai])
  rw[A3 Z]at E;refine Er U Z K9 ?_;refine A0.ff rfl (A0.xx ?_);simp only[A5,A9,Ac];exact V _ _ (by simp[sle,Av,Af,E]) sB
 refine Ae U K9 λW u2=>?_;refine A0.ff rfl (A0.xx ?_);simp only[A5,A9,Ac];rw[Jf (by omega),Jt]at E;exact V _ _ (by simp[sle,Av,Af,E]) sB
def Prog.K8(p:Prog)(h:p.Ok):0<=p.count:=by
 have U:=(Ex.K8 p.main 0 h.main).1;have L:∀(l:List Decl) (n:Int),(∀d,d∈l->d.Ok)->n<=Jt l n:=by
  intro l
  induction l with
  |nil=>intro n _;simp[Jt]
  |cons d l J =>intro n E;simp only[Jt];split;have I:=Decl.K8 d n (E d (by simp));have V:=J (d.count n) (λu O=>E u (by simp[O]));omega;omega
 have I:=L p.decls (p.main.count 0) h.decls.2;unfold Prog.count;omega
def F6q(p:Prog):Ab prog 13 [Cq p] (B1 (decide (p.count<=600))):=by refine cB func13 ?_;refine sR [0,1,2] ?_;refine sC (F5u p) [0,1,2] ?_;exact aR
def Decl.J3(d:Decl)(nm:A2):Bool:=(decide (d.kind=1) ||decide (d.kind=2)) && decide (d.name=nm)
def findD(nm:A2):List Decl->Nat->Int
 |[],_=>-1
 |d::ds,i=>if d.J3 nm=true then i else findD nm ds (i+1)
abbrev Rr:List Nat:=[0,1,2,4,5,10,38]
def A7a(p:Prog)(nm:A2):Ab prog 106 [Cq p,B4 nm] (A7 (findD nm p.decls 0)):=by
 refine Ch.bd (Enters.of func106 rfl (by decide)) λa0=>?_;have a1:=B4j a0.1;have hl:=a1.decls.1;refine cB func106 ?_;refine sR Rr<|sK λK1 u1=>?_;have a2:∀sl bx,findD nm p.decls 0 = -1->K1 sl bx:=by intro sl bx h1;refine u1 _ _ (A0.ww (sl':=[]) (bx':=[]) trivial trivial ?_);clear u1 K1;refine sR Rr ?_;rw[h1];exact aR
 refine sR Rr ?_;refine A0.bb (A0.loop (X:=Nat) (λx=>[(5,A7 x),(1,B4 nm),(2,.box 2 0)]) (λ_=>[(2,.cells ((Ai p).map .d))]) (λx=>x<=p.decls.length/\findD nm (p.decls.drop x) x=findD nm p.decls 0) (λx=>p.decls.length - x) 0 ?_ ?_ ?_ ?_);exact⟨by simp,rfl⟩;exact sS;exact(by simp[ble,A8,Ai]);rintro j ⟨hj,E⟩;by_cases Z:(j:Int)<(p.decls.length:Int)
 .have U:j<p.decls.length:=by omega
  have W:p.decls[j]?=some p.decls[j]:=Br U;have dp:p.decls.drop j=p.decls[j]::p.decls.drop (j+1):=Gv U;generalize p.decls[j]=y at*;rw[dp,findD]at E;refine Ae Z Rr λV u2=>?_;refine A0.tt rfl (A0.kk (u2 _ _ ?_));clear u2 V;refine sK λV u2=>A0.bb ?_;by_cases J:y.kind=1
  .by_cases O:y.name=nm
   ·(refine sQ Rr λK I=>?_;simp -implicitDefEqProofs only[EV,Nat.reduceEqDiff,reduceCtorEq,Dn,A4u,A1g,Zb,])
    repeat (refine⟨by omega,B3 y,Ek W,rfl,?_⟩;refine Du J O ?_)
    (apply I;clear I K)
    have ht:y.J3 nm=true:=by simp[Decl.J3,J,O]
    rw[A6 ht]at E;refine A0.tt rfl<|sR Rr ?_;rw[<-E];exact aR
   ·(refine sQ Rr λK I=>?_;simp -implicitDefEqProofs only[EV,Nat.reduceEqDiff,reduceCtorEq,Dn,A4u,A1g,Zb,])
    repeat (refine⟨by omega,B3 y,Ek W,rfl,?_⟩;refine Du J O ?_)
    (apply I;clear I K)
    have ht:¬y.J3 nm=true:=by simp[Decl.J3,J,O]
    rw[A3 ht]at E;refine A0.ff rfl (A0.kk ?_);simp only[A5,A9];refine u2 _ _ ?_;clear u2 V
    (refine lQ Rr λK I=>?_;refine ev ?_)
    refine⟨by unfold B7;unfold lim at*;omega,?_⟩
    (apply I;clear I K;try simp only[A5,])
    exact⟨j+1,⟨by omega,E⟩,by omega,by simp[sle,Av,Af],(by simp[ble,A8,Ai])⟩
  .by_cases L:y.kind=2
   .by_cases O:y.name=nm
    ·(refine sQ Rr λK I=>?_;simp -implicitDefEqProofs only[EV,Nat.reduceEqDiff,reduceCtorEq,Dn,A4u,A1g,Zb,])
     repeat (refine⟨by omega,B3 y,Ek W,rfl,?_⟩;refine Du L O ?_)
     (apply I;clear I K)
     have ht:y.J3 nm=true:=by simp[Decl.J3,L,O]
     rw[A6 ht]at E;refine A0.tt rfl<|sR Rr ?_;rw[<-E];exact aR
    ·(refine sQ Rr λK I=>?_;simp -implicitDefEqProofs only[EV,Nat.reduceEqDiff,reduceCtorEq,Dn,A4u,A1g,Zb,])
     repeat (refine⟨by omega,B3 y,Ek W,rfl,?_⟩;refine Du L O ?_)
     (apply I;clear I K)
     have ht:¬y.J3 nm=true:=by simp[Decl.J3,L,O]
     rw[A3 ht]at E;refine A0.ff rfl (A0.kk ?_);simp only[A5,A9];refine u2 _ _ ?_;clear u2 V
     (refine lQ Rr λK I=>?_;refine ev ?_)
     refine⟨by unfold B7;unfold lim at*;omega,?_⟩
     (apply I;clear I K;try simp only[A5,])
     exact⟨j+1,⟨by omega,E⟩,by omega,by simp[sle,Av,Af],(by simp[ble,A8,Ai])⟩
   ·(refine sQ Rr λK I=>?_;simp -implicitDefEqProofs only[EV,Nat.reduceEqDiff,reduceCtorEq,Dn,A4u,A1g,Zb,])
    repeat (refine⟨by omega,B3 y,Ek W,rfl,?_⟩;refine Du J L ?_)
    (apply I;clear I K)
    have ht:¬y.J3 nm=true:=by simp[Decl.J3,J,L]
    rw[A3 ht]at E;refine A0.ff rfl (A0.kk ?_);simp only[A5,A9];refine u2 _ _ ?_;clear u2 V
    (refine lQ Rr λK I=>?_;refine ev ?_)
    refine⟨by unfold B7;unfold lim at*;omega,?_⟩
    (apply I;clear I K;try simp only[A5,])
    exact⟨j+1,⟨by omega,E⟩,by omega,by simp[sle,Av,Af],(by simp[ble,A8,Ai])⟩
 refine Ae Z Rr λV u2=>?_;refine A0.ff rfl (A0.xx ?_);simp only[A5,A9,Ac];rw[Jf (by omega),findD]at E;exact a2 _ _ E.symm
def kindOf(p:Prog)(nm:A2):Int:=match p.decls.find? (λd=>d.J3 nm)with
 |some d=>d.kind
 |none=>0
def A8g(nm:A2):∀(l:List Decl)(i:Nat),(findD nm l i = -1/\l.find? (λd=>d.J3 nm)=none)\/∃k d,l[k]?=some d/\findD nm l i=((i+k:Nat):Int)/\l.find? (λd=>d.J3 nm)=some d
 |[],i=>by simp[findD]
 |d::ds,i=>by simp only[findD,Xc];split;rename_i h;exact .inr ⟨0,d,rfl,rfl,by simp[h]⟩;rename_i h;rcases A8g nm ds (i+1)with⟨E,I⟩|⟨k,J,E,I,L⟩;exact .inl ⟨E,by simp[h,I]⟩;exact .inr ⟨k+1,J,by simpa using E,by rw[I];congr 1;omega,by simp[h,L]⟩
abbrev q7p:List Nat:=[0,1,2,4,5,10]
def A8z(p:Prog)(nm:A2):Ab prog 104 [Cq p,B4 nm] (A7 (kindOf p nm)):=by
 refine Ch.bd (Enters.of func104 rfl (by decide)) λI=>?_;have J:=B4j I.1;have hl:=J.decls.1;refine cB func104 ?_;refine sR q7p ?_;refine sC (A7a p nm) q7p<|sK λK1 u1=>?_;rcases A8g nm p.decls 0 with⟨E,O⟩|⟨k,d,E,O,V⟩
 .rw[E];have L:kindOf p nm=0:=by simp[kindOf,O]
  refine sR q7p ?_;refine A0.tt rfl<|sR q7p ?_;rw[L];exact aR
 .rw[O];have L:kindOf p nm=d.kind:=by simp[kindOf,V]
  have Z:¬((0+k:Nat):Int)<0:=by omega
  have W:((0+k:Nat):Int).toNat=k:=by omega
  refine sR q7p ?_;refine A0.ff rfl (A0.kk (u1 _ _ ?_));clear u1 K1;refine sQ q7p λK U=>?_;refine ev ?_;refine⟨by omega,B3 d,Ek E,rfl,?_⟩;refine ev ?_;apply U;clear U K;rw[L];exact aR
abbrev q8p:List Nat:=[0,1,4,5,9,17]
def A6z(l:List A2)(s:A2):Ab prog 144 [Ce l,B4 s] (B1 (decide (s∈l))):=by
 refine Ch.bd (Enters.of func144 rfl (by decide)) λV=>?_;have hl:=(A9s V.1).1;refine cB func144 ?_;refine sR q8p<|sK λK1 u1=>?_;have W:∀sl bx,¬s∈l->K1 sl bx:=by intro sl bx h1;refine u1 _ _ (A0.ww (sl':=[]) (bx':=[]) trivial trivial ?_);clear u1 K1;refine sR q8p ?_;rw[Cu h1];exact aR
 refine sR q8p ?_;refine A0.bb (A0.loop (X:=Nat) (λx=>[(5,A7 x),(0,Ce l),(1,B4 s)]) (λ_=>[]) (λx=>x<=l.length/\(s∈l↔s∈l.drop x)) (λx=>l.length - x) 0 ?_ ?_ ?_ ?_);exact⟨by simp,by simp⟩;exact sS;exact sB;rintro j ⟨hj,E⟩;by_cases L:(j:Int)<(l.length:Int)
 .have I:j<l.length:=by omega
  have Z:l[j]?=some l[j]:=Br I;have a0:l[j]∈l:=Gi I;have dp:l.drop j=l[j]::l.drop (j+1):=Gv I;generalize l[j]=y at*;rw[dp,B5]at E;refine Ae L q8p λU u2=>?_;refine A0.tt rfl (A0.kk (u2 _ _ ?_));clear u2 U;refine sK λU u2=>A0.bb ?_;by_cases O:y=s
  ·(refine sQ q8p λK J=>?_;refine ev ?_)
   refine⟨by omega,_,J7 Z,rfl,?_⟩;refine Ah O ?_
   (apply J;clear J K)
   refine A0.tt rfl<|sR q8p ?_;rw[Cc (E.2 (.inl O.symm))];exact aR
  ·(refine sQ q8p λK J=>?_;refine ev ?_)
   refine⟨by omega,_,J7 Z,rfl,?_⟩;refine Ah O ?_
   (apply J;clear J K)
   refine A0.ff rfl (A0.kk ?_);simp only[A5,A9];refine u2 _ _ ?_;clear u2 U
   (refine lQ q8p λK J=>?_;refine ev ?_)
   refine⟨by unfold B7;unfold lim at*;omega,?_⟩
   (apply J;clear J K;try simp only[A5,])
   exact⟨j+1,⟨by omega,by rw[E];exact⟨λh=>h.resolve_left (λh=>O h.symm),.inr⟩⟩,by omega,by simp[sle,Av,Af],sB⟩
 refine Ae L q8p λU u2=>?_;refine A0.ff rfl (A0.xx ?_);simp only[A5,A9,Ac];rw[Jf (by omega)]at E;exact W _ _ (by rw[E];simp)
def Bw:A2->A2->Int
 |[],[]=>0
 |[],_::_=>-1
 |_::_,[]=>1
 |x::xs,y::E=>if x<y then -1 else if y<x then 1 else Bw xs E
abbrev Pt:List Nat:=[0,1,4,5,15,24,31,36,41]
def B4z(a b:A2):Ab prog 109 [B4 a,B4 b] (A7 (Bw a b)):=by
 refine Ch.bd (Enters.of func109 rfl (by decide)) λa0=>?_;have a5:=Vf a0.1;have a4:=Vf a0.2.1;refine cB func109 ?_;refine sR Pt<|sK λZ u1=>?_;have a1:∀sl bx,sle sl [(0,B4 a),(1,B4 b)]->(Bw a b=if(a.length:Int)<b.length then -1 else if(b.length:Int)<a.length then 1 else 0)->Z sl bx:=by
  intro sl bx a2 hc;refine u1 _ _ (A0.ww (bx':=[]) a2 trivial ?_);clear u1 Z;refine sK λZ u1=>?_;by_cases h1:(a.length:Int)<b.length;refine Ap h1 Pt ?_;refine A0.tt rfl<|sR Pt ?_;rw[hc,A6 h1];exact aR
  .refine Ap h1 Pt ?_;refine A0.ff rfl (A0.kk (u1 _ _ ?_));clear u1 Z;refine sK λZ u1=>?_;by_cases h2:(b.length:Int)<a.length;refine Ap h2 Pt ?_;refine A0.tt rfl<|sR Pt ?_;rw[hc,A3 h1,A6 h2];exact aR
   refine Ap h2 Pt ?_;refine A0.ff rfl (A0.kk (u1 _ _ ?_));clear u1 Z;refine sR Pt ?_;rw[hc,A3 h1,A3 h2];exact aR
 refine sR Pt ?_;refine A0.bb (A0.loop (X:=Nat) (λx=>[(5,A7 x),(0,B4 a),(1,B4 b)]) (λ_=>[]) (λx=>x<=a.length/\x<=b.length/\Bw (a.drop x) (b.drop x)=Bw a b) (λx=>a.length - x) 0 ?_ ?_ ?_ ?_);exact⟨by simp,by simp,rfl⟩;exact sS;exact sB;rintro j ⟨hj,a3,E⟩;by_cases W:(j:Int)<(a.length:Int)
 .by_cases O:(j:Int)<(b.length:Int)
  .have V:j<a.length:=by omega
   have I:j<b.length:=by omega
   have hx:a[j]?=some a[j]:=Br V;have hy:b[j]?=some b[j]:=Br I;rw[Gv V,Gv I,Bw]at E;generalize a[j]=x at*;generalize b[j]=y at*;refine P4 W O Pt λK2 u2=>?_;refine A0.tt rfl (A0.kk (u2 _ _ ?_));clear u2 K2;refine sK λK2 u2=>A0.bb<|sK λK3 u3=>?_
   refine sG Pt [] 6 [] λK U=>?_;refine ev ?_;refine⟨by omega,x,hx,by omega,y,hy,?_⟩;apply U;clear U K;have e1:∀u v:UInt8,(u.toNat:Int)<v.toNat↔u<v:=λu v=>by rw[Ak0];omega
   simp only[e1];by_cases J:x<y;rw[A6 J]at E;refine A0.tt (by simp[Ao,Af,J])<|sR Pt ?_;rw[<-E];exact aR
   .rw[A3 J]at E;refine A0.ff (by simp[Ao,Af,J]) (A0.kk ?_);simp only[A5,];refine u3 _ _ ?_;clear u3 K3;refine sG Pt [] 6 [] λK U=>?_;refine ev ?_;refine⟨by omega,x,hx,by omega,y,hy,?_⟩;apply U;clear U K;simp only[e1];by_cases L:y<x;rw[A6 L]at E;refine A0.tt (by simp[Ao,Af,L])<|sR Pt ?_;rw[<-E];exact aR
    rw[A3 L]at E;refine A0.ff (by simp[Ao,Af,L]) (A0.kk ?_);simp only[A5,A9];refine u2 _ _ ?_;clear u2 K2;refine lQ Pt λK U=>?_;refine ev ?_;refine⟨by unfold B7;unfold lim at*;omega,?_⟩;(apply U;clear U K;try simp only[A5,]);exact⟨j+1,⟨by omega,by omega,E⟩,by omega,by simp[sle,Av,Af],sB⟩
  refine P4 W O Pt λK2 u2=>?_;refine A0.ff rfl (A0.xx ?_);simp only[A5,A9,Ac];have hd:b.drop j=[]:=Jf (by omega);rw[hd,Gv (show j<a.length by omega),Bw]at E;exact a1 _ _ sS (by rw[<-E,A3 (by omega),A6 (by omega)])
 refine Ae W Pt λK2 u2=>?_;refine A0.ff rfl (A0.xx ?_);simp only[A5,A9,Ac];have hd:a.drop j=[]:=Jf (by omega);rw[hd]at E;refine a1 _ _ sS ?_;rw[<-E];by_cases hb:j<b.length;rw[Gv hb,Bw,A6 (by omega)];rw[Jf (by omega),Bw,A3 (by omega),A3 (by omega)]
def ins(s:A2):List A2->List A2
 |[]=>[s]
 |x::xs=>if Bw s x<0 then s::x::xs else x::ins s xs
def Vi(l:List A2)(s:A2):List A2:=if s∈l then l else ins s l
def C7j(s:A2):∀l,(ins s l).length=l.length+1
 |[]=>rfl
 |x::xs=>by simp only[ins];split <;> simp[C7j s xs]
abbrev No:List Nat:=[0,1,4,5,6,7,10,15,28,41]
def G4y(l:List A2)(s:A2)(a2:l.length<=1000000):Ab prog 237 [Ce l,B4 s] (Ce (Vi l s)):=by
 refine cB func237 ?_;refine sR No ?_;refine kC (A6z l s) No λW u1=>?_;by_cases L:s∈l;refine A0.tt (by simp[Ao,Af,L])<|sR No ?_;rw[Vi,A6 L];exact aR
 refine A0.ff (by simp[Ao,Af,L]) (A0.kk (u1 _ _ ?_));clear u1 W;refine sR No ?_;refine sR No ?_;refine A0.pp 5 1 5 rfl<|sK λW u1=>?_;have a1:∀sl bx (b:Bool) r,sle sl [(1,B4 s),(5,.acc 5),(6,B1 b)]->ble bx [(5,.rows 1 (Ba r))]->r.length<=l.length+1->(if b then r else r++[s])=ins s l->W sl bx:=by
  intro sl bx b r Z h2 hr hb;refine u1 _ _ (A0.ww Z h2 ?_);clear u1 W Z h2;refine kR No λW u1=>?_;cases b with
  |true =>refine A0.ff rfl (A0.kk (u1 _ _ ?_));clear u1 W;refine sR No ?_;simp only[Ac]at hb;rw[Vi,A3 L,<-hb];exact aR
  |false =>
   refine A0.tt rfl ?_;refine lQ No λK I=>?_;refine ev ?_;refine⟨by simp,by unfold lim;omega,?_⟩;(apply I;clear I K;try simp only[A5,]);refine u1 _ _ ?_;clear u1 W;refine sR No ?_;have e:Ba r++[[D.str s]]=Ba (r++[s]):=by simp[Ba]
   simp only[I5,Fm]at hb;rw[Vi,A3 L,<-hb,e];exact aR
 refine sR No ?_;refine A0.bb (A0.loop (X:=Nat × Bool × List A2) (λx=>[(7,A7 x.1),(0,Ce l),(1,B4 s),(5,.acc 5),(6,B1 x.2.1)]) (λx=>[(5,.rows 1 (Ba x.2.2))]) (λx=>x.1<=l.length/\x.2.2++(if x.2.1 then l.drop x.1 else ins s (l.drop x.1))=ins s l) (λx=>l.length - x.1) (0,false,[]) ?_ ?_ ?_ ?_);exact⟨by simp,by simp⟩;exact sS;simp[ble,A8,Ba]
 rintro⟨j,b,r⟩ ⟨hj,E⟩;simp only at hj E;have O:=Gf List.length E;simp only[As,C7j]at O;have V:r.length=if b then j+1 else j:=by
  cases b;simp only[I5,Fm,C7j,An9]at O |-;omega
  simp only[Ac,An9]at O |-;omega
 clear O;by_cases a0:(j:Int)<(l.length:Int)
 .have U:j<l.length:=by omega
  have hy:l[j]?=some l[j]:=Br U;have dp:l.drop j=l[j]::l.drop (j+1):=Gv U;generalize l[j]=y at*;rw[dp]at E;refine Ae a0 No λK2 u2=>?_;refine A0.tt rfl (A0.kk (u2 _ _ ?_));clear u2 K2;refine sK λK2 u2=>A0.bb<|sK λK3 u3=>?_;have J:∀sl bx (b':Bool) r',sle sl [(7,A7 j),(0,Ce l),(1,B4 s),(5,.acc 5),(6,B1 b')]->ble bx [(5,.rows 1 (Ba r'))]->r'.length<=l.length->r'++y::(if b' then l.drop (j+1)else ins s (l.drop (j+1)))=ins s l->K3 sl bx:=by intro sl bx b' r' Z h2 a3 h3;refine u3 _ _ (A0.ww Z h2 ?_);clear u3 K3 Z h2;refine lQ No λK I=>?_;refine ev ?_;refine⟨by omega,_,J7 hy,rfl,?_⟩;refine ev ?_;refine⟨by simp,by unfold lim;omega,?_⟩;(apply I;clear I K;try simp only[A5,A9]);refine u2 _ _ ?_;clear u2 K2;refine lQ No λK I=>?_;refine ev ?_;refine⟨by unfold B7;omega,?_⟩;(apply I;clear I K;try simp only[A5,]);exact⟨(j+1,b',r'++[y]),⟨by simp only;omega,by simpa using h3⟩,by simp only;omega,by simp[sle,Av,Af],by simp[ble,A8,Ba]⟩
  clear u3 u2;cases b with
  |true =>simp only[Ac]at E V;refine sR No ?_;refine A0.ff rfl (A0.kk ?_);simp only[A5,];exact J _ _ true r sS sB (by omega) E
  |false =>
   simp only[I5,Fm,ins]at E V;refine sQ No λK I=>?_;refine ev ?_;refine⟨by omega,_,J7 hy,rfl,?_⟩;refine ev ?_;refine⟨A7 (Bw s y),.inl ⟨_,rfl,B4z s y,rfl⟩,?_⟩;refine ev ?_;apply I;clear I K;by_cases hc:Bw s y<0
   .rw[A6 hc]at E;refine A0.tt (by simp[Ao,Af,hc]) ?_;have a4:r.length<=l.length:=by omega
    have e:Ba r++[[D.str s]]=Ba (r++[s]):=by simp[Ba]
    refine sQ No λK I=>?_;refine ev ?_;refine⟨by simp,by unfold lim;omega,?_⟩;rw[e];apply I;clear I K;(refine lV No λK z=>?_;apply z;clear z K;try simp only[A5,]);exact J _ _ true (r++[s]) sS sB (by simp only[As,Ar,Az];omega) (by simpa using E)
   rw[A3 hc]at E;refine A0.ff (by simp[Ao,Af,hc]) (A0.kk ?_);simp only[A5,];exact J _ _ false r sS sB (by omega) (by simpa using E)
 refine Ae a0 No λK2 u2=>?_;refine A0.ff rfl (A0.xx ?_);simp only[A5,A9,Ac];rw[Jf (by omega)]at E;exact a1 _ _ b r sS sB (by cases b <;> simp only[Ac,I5,Fm]at V <;> omega) (by rw[<-E];cases b <;> simp[ins])
end Go.Abs
