import Derived.Test.YtoajimpjknbnoaaGreatDoorKEV
set_option linter.all false
set_option maxHeartbeats 1000000
set_option maxRecDepth 100000
namespace Go.iA
open Go Go.Proofs Tryz
mutual
def Ty.count:Ty->Int->Int
 |.mk n a _,k=>Ty.Ct a (k+1+((n.length / 50:Nat):Int))
def Ty.Ct:List Ty->Int->Int
 |[],k=>k
 |t::E,k=>if k<=2000 then Ty.Ct E (t.count k)else k
end
def Ty.count_eq(t:Ty)(k:Int):t.count k=Ty.Ct t.args (k+1+((t.name.length / 50:Nat):Int)):=by cases t;rfl
def cap:Int:=4611686018427387904
mutual
theorem Ty.Kq:∀(t:Ty)(k:Int),t.Ok->k<=t.count k/\t.count k<=max k 2000+2814749767107
 |.mk n a p,k,h=>by have I:n.length<=lim:=h.name;have:=Ty.kH a (k+1+((n.length / 50:Nat):Int)) (λt ht=>h.arg t ht);simp only[Ty.count];unfold lim at I;omega
theorem Ty.kH:∀(l:List Ty)(k:Int),(∀t,t∈l->t.Ok)->k<=Ty.Ct l k/\Ty.Ct l k<=max k (2000+2814749767107)
 |[],k,_=>by simp only[Ty.Ct];omega
 |t::E,k,h=>by simp only[Ty.Ct];split;have O:=Ty.Kq t k (h t (by simp));have L:=Ty.kH E (t.count k) (λu J=>h u (by simp[J]));omega;omega
end
abbrev KC:=[0,1,2,4,5,21]
def wF:∀(t:Ty)(n:Int),0<=n->n<=cap->Ab prog 48 [Ba t,A6 n] (A6 (t.count n)):=by
 intro t
 induction t using Ty.induct with
 |h t ih =>
 intro n h0 h1;refine Ci.bd (Enters.of func48 rfl (by decide)) λa2=>?_;have U:=BQ a2.1;have V:=U.name;have W:=U.len;have hq:t.name.length / 50<=2814749767106:=by unfold lim at V;omega
 refine cB func48 ?_;refine sR KC ?_
 (refine sQ KC λK J=>?_;refine ev ?_)
 refine⟨by unfold B6 cap at*;omega,(by first| (unfold B6;omega)| (simp only[B6,sm,lim]at*;omega)),by unfold B6 cap at*;omega,?_⟩
 (apply J)
 refine kR KC λK1 u1=>?_;refine bA (A0.loop (X:=Nat × Int) (λx=>[(1,A6 x.2),(2,.box 2 0),(5,A6 x.1)]) (λ_=>[(2,.cells [.d (.str t.name),.d (.slice (Au t.args)),.d (.int .i64 t.pos)])]) (λx=>x.1<=t.args.length/\0<=x.2/\x.2<=cap+2814749769108/\Ty.Ct (t.args.drop x.1) x.2=t.count n) (λx=>t.args.length - x.1) (0,n+1+((t.name.length / 50:Nat):Int)) ?_ ?_ ?_ ?_)
 .exact⟨by simp,by omega,by unfold cap at*;omega,by rw[Ty.count_eq];rfl⟩
 .simp[sle,B0,Ae]
 .simp[ble,A9]
 rintro⟨i,m⟩ ⟨hi,a0,a1,E⟩;simp only at hi a0 a1 E;have Z:∀z:Int,z=t.count n->K1 [(0,.undef),(1,A6 z),(2,.box 2 0),(4,.undef),(5,A6 i),(21,Ar false)] [(2,.cells [.d (.str t.name),.d (.slice (Au t.args)),.d (.int .i64 t.pos)])]:=by rintro z rfl;refine u1 _ _<|sR KC ?_;exact aR
 by_cases O:(i:Int)<(t.args.length:Int)
 .have I:i<t.args.length:=by omega
  have hx:t.args[i]?=some t.args[i]:=Bu I;have L:t.args[i]∈t.args:=Gc I;have dp:t.args.drop i=t.args[i]::t.args.drop (i+1):=H7 I;generalize t.args[i]=x at*;rw[dp,Ty.Ct]at E;refine sK λK2 u2=>?_;by_cases hm:m<=2000
  .rw[A7 hm]at E;refine Ee O hm KC ?_;refine eA rfl (cA (u2 _ _ ?_));refine sK λK2 u2=>bA ?_
   (refine lQ KC λK J=>?_;refine ev ?_)
   refine⟨by omega,Bf x,Fs hx,rfl,?_⟩;refine Bb @Bf.eq_1 ?_;refine⟨A6 (x.count m),.inl ⟨_,rfl,ih x L m a0 (by unfold cap;omega),rfl⟩,?_⟩;refine ev ?_
   (apply J;try simp only[Aa,Af])
   apply u2
   (refine lQ KC λK J=>?_;refine ev ?_)
   refine⟨by unfold B6;unfold lim at W;omega,?_⟩
   (apply J;try simp only[Aa,])
   have hb:=Ty.Kq x m (U.arg x L);exact⟨(i+1,x.count m),⟨by simp only;omega,by simp only;omega,by simp only;unfold cap;omega,E⟩,by simp only;omega,by simp[sle,B0,Ae],by simp[ble,A9]⟩
  .rw[A5 hm]at E;refine Ee O hm KC ?_;refine dA rfl (lA ?_);simp only[Aa,Af,Av];exact Z m E
 .refine Ag O KC λK2 u2=>?_;refine dA rfl (lA ?_);simp only[Aa,Af,Av];rw[Jk (by omega),Ty.Ct]at E;exact Z m E
variable {n:Nat}
def Sh(h:n<=lim):n / 50<=2814749767106:=by unfold lim at h;omega
mutual
def Ex.count:Ex->Int->Int
 |.mk _ nm t E ks _,n=>Ex.Ct ks (Ty.Ct E (t.count (n+((nm.length / 50:Nat):Int))))
def Ex.Ct:List Ex->Int->Int
 |[],n=>n
 |e::es,n=>if n<=2000 then Ex.Ct es (e.count n)else n
end
def Ex.count_eq(e:Ex)(n:Int):e.count n=Ex.Ct e.kids (Ty.Ct e.targs (e.type.count (n+((e.name.length / 50:Nat):Int)))):=by cases e;rfl
mutual
theorem Ex.Kq:∀(e:Ex)(n:Int),e.Ok->n<=e.count n/\e.count n<=max n 2000+6000000000000
 |.mk k nm t E ks p,n,h=>by
  have I:=Sh h.name;have J:=Ty.Kq t (n+((nm.length / 50:Nat):Int)) h.type;have W:=Ty.kH E (t.count (n+((nm.length / 50:Nat):Int))) h.targs.2;have V:=Ex.kH ks (Ty.Ct E (t.count (n+((nm.length / 50:Nat):Int)))) h.kids.2;have L:((nm.length / 50:Nat):Int)<=2814749767106:=by simp only[Ex.name]at I;omega
  simp only[Ex.count];have Z:0<=((nm.length / 50:Nat):Int):=by omega
  generalize((nm.length / 50:Nat):Int)=q at*;omega
theorem Ex.kH:∀(l:List Ex)(n:Int),(∀t,t∈l->t.Ok)->n<=Ex.Ct l n/\Ex.Ct l n<=max n (2000+6000000000000)
 |[],n,_=>by simp only[Ex.Ct];omega
 |t::O,n,h=>by simp only[Ex.Ct];split;have I:=Ex.Kq t n (h t (by simp));have J:=Ex.kH O (t.count n) (λu U=>h u (by simp[U]));omega;omega
end
abbrev Se:=[0,1,2,4,5,6,24,42]
def nY:∀(e:Ex)(n:Int),0<=n->n<=cap - 100000000000000->Ab prog 97 [D6 e,A6 n] (A6 (e.count n)):=by
 intro e
 induction e using Ex.induct with
 |h e ih =>
 intro n h0 h1;refine Ci.bd (Enters.of func97 rfl (by decide)) λa2=>?_;have L:=cU a2.1;have hq:=Sh L.name;have ht:=Ty.Kq e.type (n+((e.name.length / 50:Nat):Int)) L.type;have a4:=Ty.kH e.targs (e.type.count (n+((e.name.length / 50:Nat):Int))) L.targs.2;have a3:=L.targs.1;have a5:=L.kids.1;have a1:=Ex.count_eq e n;refine cB func97 ?_;refine sR Se ?_
 (refine sQ Se λK O=>?_;refine ev ?_)
 refine⟨(by first| (unfold B6;omega)| (simp only[B6,sm,lim]at*;omega)),by unfold B6 cap at*;omega,A6 (e.type.count (n+((e.name.length / 50:Nat):Int))),.inl ⟨_,rfl,wF e.type _ (by omega) (by unfold cap at*;omega),rfl⟩,?_⟩;refine ev ?_
 (apply O)
 generalize e.type.count (n+((e.name.length / 50:Nat):Int))=n1 at*;refine sK λK1 u1=>?_;have V:∀sl bx,sle sl [(1,A6 (Ty.Ct e.targs n1)),(2,.box 2 0)]->ble bx [(2,.cells ((Ce e).map .d))]->K1 sl bx:=by
  intro sl bx h1 h2;refine u1 _ _ (A0.ww h1 h2 ?_);generalize Ty.Ct e.targs n1=n2 at*;refine kR Se λK1 u1=>?_;have V:∀sl bx,sle sl [(1,A6 (Ex.Ct e.kids n2))]->ble bx []->K1 sl bx:=by intro sl bx h1 h2;refine u1 _ _ (A0.ww h1 h2 ?_);refine sR Se ?_;rw[a1];exact aR
  refine bA (A0.loop (X:=Nat × Int) (λx=>[(1,A6 x.2),(6,A6 x.1),(2,.box 2 0)]) (λ_=>[(2,.cells ((Ce e).map .d))]) (λx=>x.1<=e.kids.length/\0<=x.2/\x.2<=cap+100000000000000/\Ex.Ct (e.kids.drop x.1) x.2=Ex.Ct e.kids n2) (λx=>e.kids.length - x.1) (0,n2) ?_ ?_ ?_ ?_);exact⟨by simp,by omega,by unfold cap at*;omega,by first|rfl|simp⟩;simp[sle,B0,Ae];exact(by simp[ble,A9,Ce,]);rintro⟨i,m⟩ ⟨hi,W,a0,E⟩;simp only at hi W a0 E;by_cases J:(i:Int)<(e.kids.length:Int)
  .have I:i<e.kids.length:=by omega
   have hx:e.kids[i]?=some e.kids[i]:=Bu I;have U:e.kids[i]∈e.kids:=Gc I;have dp:e.kids.drop i=e.kids[i]::e.kids.drop (i+1):=H7 I;generalize e.kids[i]=x at*;rw[dp,Ex.Ct]at E;refine sK λZ u2=>?_;by_cases hm:m<=2000;rw[A7 hm]at E;refine Ee J hm Se ?_;refine eA rfl (cA (u2 _ _ ?_));refine sK λZ u2=>bA ?_;refine lQ Se λK O=>?_;refine ev ?_;refine⟨by omega,Ce x,Ey hx,rfl,?_⟩;refine ev ?_;refine⟨A6 (x.count m),.inl ⟨_,rfl,ih x U m W (by unfold cap;omega),rfl⟩,?_⟩;refine ev ?_;(apply O;try simp only[Aa,Af]);apply u2;refine lQ Se λK O=>?_;refine ev ?_;refine⟨by unfold B6;unfold lim at*;omega,?_⟩;(apply O;try simp only[Aa,]);have hb:=Ex.Kq x m (L.kids.2 x U);exact⟨(i+1,x.count m),⟨by simp only;omega,by simp only;omega,by simp only;unfold cap;omega,E⟩,by simp only;omega,by simp[sle,B0,Ae],(by simp[ble,A9,Ce,])⟩;rw[A5 hm]at E;refine Ee J hm Se ?_;refine dA rfl (lA ?_);simp only[Aa,Af,Av];exact V _ _ (by simp[sle,B0,Ae,E]) sB
  refine Ag J Se λZ u2=>?_;refine dA rfl (lA ?_);simp only[Aa,Af,Av];rw[Jk (by omega),Ex.Ct]at E;exact V _ _ (by simp[sle,B0,Ae,E]) sB
 refine sR Se ?_;refine bA (A0.loop (X:=Nat × Int) (λx=>[(1,A6 x.2),(5,A6 x.1),(2,.box 2 0)]) (λ_=>[(2,.cells ((Ce e).map .d))]) (λx=>x.1<=e.targs.length/\0<=x.2/\x.2<=cap+100000000000000/\Ty.Ct (e.targs.drop x.1) x.2=Ty.Ct e.targs n1) (λx=>e.targs.length - x.1) (0,n1) ?_ ?_ ?_ ?_)
 .exact⟨by simp,by omega,by unfold cap at*;omega,by first|rfl|simp⟩
 .simp[sle,B0,Ae]
 .exact(by simp[ble,A9,Ce,])
 rintro⟨i,m⟩ ⟨hi,W,a0,E⟩;simp only at hi W a0 E;by_cases J:(i:Int)<(e.targs.length:Int)
 .have I:i<e.targs.length:=by omega
  have hx:e.targs[i]?=some e.targs[i]:=Bu I;have U:e.targs[i]∈e.targs:=Gc I;have dp:e.targs.drop i=e.targs[i]::e.targs.drop (i+1):=H7 I;generalize e.targs[i]=x at*;rw[dp,Ty.Ct]at E;refine sK λZ u2=>?_;by_cases hm:m<=2000
  .rw[A7 hm]at E;refine Ee J hm Se ?_;refine eA rfl (cA (u2 _ _ ?_));refine sK λZ u2=>bA ?_
   (refine lQ Se λK O=>?_;refine ev ?_)
   (refine⟨by omega,Bf x,Fs hx,rfl,?_⟩;refine ev ?_;refine⟨A6 (x.count m),.inl ⟨_,rfl,wF x m W (by unfold cap;omega),rfl⟩,?_⟩;refine ev ?_)
   (apply O;try simp only[Aa,Af])
   apply u2
   (refine lQ Se λK O=>?_;refine ev ?_)
   refine⟨by unfold B6;unfold lim at*;omega,?_⟩
   (apply O;try simp only[Aa,])
   have hb:=Ty.Kq x m (L.targs.2 x U);exact⟨(i+1,x.count m),⟨by simp only;omega,by simp only;omega,by simp only;unfold cap;omega,E⟩,by simp only;omega,by simp[sle,B0,Ae],(by simp[ble,A9,Ce,])⟩
  .rw[A5 hm]at E;refine Ee J hm Se ?_;refine dA rfl (lA ?_);simp only[Aa,Af,Av];exact V _ _ (by simp[sle,B0,Ae,E]) (by simp[ble,A9,Ce,])
 .refine Ag J Se λZ u2=>?_;refine dA rfl (lA ?_);simp only[Aa,Af,Av];rw[Jk (by omega),Ty.Ct]at E;exact V _ _ (by simp[sle,B0,Ae,E]) (by simp[ble,A9,Ce,])
def Cf:List Aj->Int->Int
 |[],n=>n
 |f::fs,n=>if n<=2000 then Cf fs (f.bound.count (n+1+((f.name.length / 50:Nat):Int)))else n
def Dj:List Param->Int->Int
 |[],n=>n
 |f::fs,n=>if n<=2000 then Dj fs (f.type.count (n+1+((f.name.length / 50:Nat):Int)))else n
def ZZ(f:Aj)(n:Int)(h:f.Ok):n<=f.bound.count (n+1+((f.name.length / 50:Nat):Int))/\f.bound.count (n+1+((f.name.length / 50:Nat):Int))<=max n 2000+6000000000000:=by have E:=Sh h.name;have I:=Ty.Kq f.bound (n+1+((f.name.length / 50:Nat):Int)) h.bound;omega
def qX(f:Param)(n:Int)(h:f.Ok):n<=f.type.count (n+1+((f.name.length / 50:Nat):Int))/\f.type.count (n+1+((f.name.length / 50:Nat):Int))<=max n 2000+6000000000000:=by have E:=Sh h.name;have I:=Ty.Kq f.type (n+1+((f.name.length / 50:Nat):Int)) h.type;omega
def YK:∀(l:List Aj)(n:Int),(∀t,t∈l->t.Ok)->n<=Cf l n/\Cf l n<=max n (2000+6000000000000)
 |[],n,_=>by simp only[Cf];omega
 |t::E,n,h=>by simp only[Cf];split;have L:=ZZ t n (h t (by simp));have J:=YK E (t.bound.count (n+1+((t.name.length / 50:Nat):Int))) (λu I=>h u (by simp[I]));omega;omega
def kM:∀(l:List Param)(n:Int),(∀t,t∈l->t.Ok)->n<=Dj l n/\Dj l n<=max n (2000+6000000000000)
 |[],n,_=>by simp only[Dj];omega
 |t::E,n,h=>by simp only[Dj];split;have L:=qX t n (h t (by simp));have J:=kM E (t.type.count (n+1+((t.name.length / 50:Nat):Int))) (λu I=>h u (by simp[I]));omega;omega
abbrev eE:=[0,1,4,5,13]
def HZ(l:List Aj)(n:Int)(h0:0<=n)(h1:n<=cap - 100000000000000):Ab prog 99 [.d (.slice (Ai l)),A6 n] (A6 (Cf l n)):=by
 refine Ci.bd (Enters.of func99 rfl (by decide)) λa1=>?_;have O:=iM a1.1;have hl:=O.1;refine cB func99 ?_;refine sR eE<|sK λK1 u1=>?_;have V:∀sl bx,sle sl [(1,A6 (Cf l n))]->ble bx []->K1 sl bx:=by intro sl bx h1 h2;refine u1 _ _ (A0.ww h1 h2 ?_);refine sR eE ?_;exact aR
 refine sR eE ?_;refine bA (A0.loop (X:=Nat × Int) (λx=>[(1,A6 x.2),(5,A6 x.1),(0,.d (.slice (Ai l)))]) (λ_=>[]) (λx=>x.1<=l.length/\0<=x.2/\x.2<=cap+100000000000000/\Cf (l.drop x.1) x.2=Cf l n) (λx=>l.length - x.1) (0,n) ?_ ?_ ?_ ?_);exact⟨by simp,by omega,by unfold cap at*;omega,by first|rfl|simp⟩;simp[sle,B0,Ae];exact sB;rintro⟨i,m⟩ ⟨hi,a2,a0,E⟩;simp only at hi a2 a0 E;by_cases L:(i:Int)<(l.length:Int)
 .have I:i<l.length:=by omega
  have hx:l[i]?=some l[i]:=Bu I;have J:l[i]∈l:=Gc I;have dp:l.drop i=l[i]::l.drop (i+1):=H7 I;generalize l[i]=x at*;rw[dp,Cf]at E;refine sK λW u2=>?_;by_cases Z:m<=2000;rw[A7 Z]at E;refine Ee L Z eE ?_;refine eA rfl (cA (u2 _ _ ?_));refine sK λW u2=>bA ?_;refine lG eE [] 15 [] λK U=>?_;simp -implicitDefEqProofs only[EV,D8,Nat.reduceAdd,Nat.reduceEqDiff,reduceCtorEq];have hq:=Sh (O.2 x J).name;refine⟨by omega,Iz x,Fm hx,rfl,?_⟩;refine ev ?_;refine⟨by unfold B6 cap at*;omega,by omega,Iz x,Fm hx,rfl,?_⟩;refine ev ?_;refine⟨(by first| (unfold B6;omega)| (simp only[B6,sm,lim]at*;omega)),by unfold B6 cap at*;omega,A6 (x.bound.count (m+1+((x.name.length / 50:Nat):Int))),.inl ⟨_,rfl,wF _ _ (by omega) (by unfold cap at*;omega),rfl⟩,?_⟩;refine ev ?_;(apply U;try simp only[Aa,Af]);apply u2;refine lQ eE λK U=>?_;refine ev ?_;refine⟨by unfold B6;unfold lim at*;omega,?_⟩;(apply U;try simp only[Aa,]);have hb:=ZZ x m (O.2 x J);exact⟨(i+1,x.bound.count (m+1+((x.name.length / 50:Nat):Int))),⟨by simp only;omega,by simp only;omega,by simp only;unfold cap;omega,E⟩,by simp only;omega,by simp[sle,B0,Ae],sB⟩;rw[A5 Z]at E;refine Ee L Z eE ?_;refine dA rfl (lA ?_);simp only[Aa,Af,Av];exact V _ _ (by simp[sle,B0,Ae,E]) sB
 refine Ag L eE λW u2=>?_;refine dA rfl (lA ?_);simp only[Aa,Af,Av];rw[Jk (by omega),Cf]at E;exact V _ _ (by simp[sle,B0,Ae,E]) sB
abbrev cE:=[0,1,4,5,13]
def ji(l:List Param)(n:Int)(h0:0<=n)(h1:n<=cap - 100000000000000):Ab prog 98 [.d (.slice (Aw l)),A6 n] (A6 (Dj l n)):=by
 refine Ci.bd (Enters.of func98 rfl (by decide)) λa1=>?_;have O:=xL a1.1;have hl:=O.1;refine cB func98 ?_;refine sR cE<|sK λK1 u1=>?_;have V:∀sl bx,sle sl [(1,A6 (Dj l n))]->ble bx []->K1 sl bx:=by intro sl bx h1 h2;refine u1 _ _ (A0.ww h1 h2 ?_);refine sR cE ?_;exact aR
 refine sR cE ?_;refine bA (A0.loop (X:=Nat × Int) (λx=>[(1,A6 x.2),(5,A6 x.1),(0,.d (.slice (Aw l)))]) (λ_=>[]) (λx=>x.1<=l.length/\0<=x.2/\x.2<=cap+100000000000000/\Dj (l.drop x.1) x.2=Dj l n) (λx=>l.length - x.1) (0,n) ?_ ?_ ?_ ?_);exact⟨by simp,by omega,by unfold cap at*;omega,by first|rfl|simp⟩;simp[sle,B0,Ae];exact sB;rintro⟨i,m⟩ ⟨hi,a2,a0,E⟩;simp only at hi a2 a0 E;by_cases L:(i:Int)<(l.length:Int)
 .have I:i<l.length:=by omega
  have hx:l[i]?=some l[i]:=Bu I;have J:l[i]∈l:=Gc I;have dp:l.drop i=l[i]::l.drop (i+1):=H7 I;generalize l[i]=x at*;rw[dp,Dj]at E;refine sK λW u2=>?_;by_cases Z:m<=2000;rw[A7 Z]at E;refine Ee L Z cE ?_;refine eA rfl (cA (u2 _ _ ?_));refine sK λW u2=>bA ?_;refine lG cE [] 15 [] λK U=>?_;simp -implicitDefEqProofs only[EV,D8,Nat.reduceAdd,Nat.reduceEqDiff,reduceCtorEq];have hq:=Sh (O.2 x J).name;refine⟨by omega,G9 x,Dt hx,rfl,?_⟩;refine ev ?_;refine⟨by unfold B6 cap at*;omega,by omega,G9 x,Dt hx,rfl,?_⟩;refine ev ?_;refine⟨(by first| (unfold B6;omega)| (simp only[B6,sm,lim]at*;omega)),by unfold B6 cap at*;omega,A6 (x.type.count (m+1+((x.name.length / 50:Nat):Int))),.inl ⟨_,rfl,wF _ _ (by omega) (by unfold cap at*;omega),rfl⟩,?_⟩;refine ev ?_;(apply U;try simp only[Aa,Af]);apply u2;refine lQ cE λK U=>?_;refine ev ?_;refine⟨by unfold B6;unfold lim at*;omega,?_⟩;(apply U;try simp only[Aa,]);have hb:=qX x m (O.2 x J);exact⟨(i+1,x.type.count (m+1+((x.name.length / 50:Nat):Int))),⟨by simp only;omega,by simp only;omega,by simp only;unfold cap;omega,E⟩,by simp only;omega,by simp[sle,B0,Ae],sB⟩;rw[A5 Z]at E;refine Ee L Z cE ?_;refine dA rfl (lA ?_);simp only[Aa,Af,Av];exact V _ _ (by simp[sle,B0,Ae,E]) sB
 refine Ag L cE λW u2=>?_;refine dA rfl (lA ?_);simp only[Aa,Af,Av];rw[Jk (by omega),Dj]at E;exact V _ _ (by simp[sle,B0,Ae,E]) sB
def A4.count(s:A4)(n:Int):Int:=s.result.count (Dj s.params (Cf s.A1 (n+((s.name.length / 50:Nat):Int))))
def A4.Kq(s:A4)(n:Int)(h:s.Ok):n<=s.count n/\s.count n<=max n 2000+10000000000000:=by have I:=Sh h.name;have L:=YK s.A1 (n+((s.name.length / 50:Nat):Int)) h.A1.2;have E:=kM s.params (Cf s.A1 (n+((s.name.length / 50:Nat):Int))) h.params.2;have J:=Ty.Kq s.result (Dj s.params (Cf s.A1 (n+((s.name.length / 50:Nat):Int)))) h.result;unfold A4.count;omega
def oX(s:A4)(n:Int)(O:0<=n)(V:n<=cap - 200000000000000):Ab prog 100 [Db s,A6 n] (A6 (s.count n)):=by refine Ci.bd (Enters.of func100 rfl (by decide)) λE=>?_;have h:=H4k E.1;have U:=Sh h.name;have J:=YK s.A1 (n+((s.name.length / 50:Nat):Int)) h.A1.2;have L:=kM s.params (Cf s.A1 (n+((s.name.length / 50:Nat):Int))) h.params.2;refine cB func100 ?_;refine sR [0,1,2,4] ?_;refine sG [0,1,2,4] [] 14 [] λK I=>?_;refine ev ?_;refine⟨(by first| (unfold B6;omega)| (simp only[B6,sm,lim]at*;omega)),by unfold B6 cap at*;omega,A6 (Cf s.A1 (n+((s.name.length / 50:Nat):Int))),.inl ⟨_,rfl,HZ _ _ (by omega) (by unfold cap at*;omega),rfl⟩,?_⟩;refine ev ?_;refine⟨A6 (Dj s.params (Cf s.A1 (n+((s.name.length / 50:Nat):Int)))),.inl ⟨_,rfl,ji _ _ (by omega) (by unfold cap at*;omega),rfl⟩,?_⟩;refine ev ?_;refine⟨A6 (s.count n),.inl ⟨_,rfl,wF _ _ (by omega) (by unfold cap at*;omega),rfl⟩,?_⟩;refine ev ?_;apply I;exact aR
def Jb:List A3->Int->Int
 |[],n=>n
 |v::vs,n=>if n<=2000 then Jb vs (n+1+((v.length / 50:Nat):Int))else n
def Ez:List A4->Int->Int
 |[],n=>n
 |s::ss,n=>if n<=2000 then Ez ss (s.count n)else n
def Decl.S8(d:Decl)(n:Int):Int:=if n<=2000 then d.body.count (d.sig.count n)else n
def Decl.count(d:Decl)(n:Int):Int :=d.S8 (Jb d.vars (Ez d.sigs (Dj d.fields (Cf d.A1 (n+1+((d.name.length / 50:Nat):Int)+((d.recv.length / 50:Nat):Int))))))
def J8:List Decl->Int->Int
 |[],n=>n
 |d::ds,n=>if n<=2000 then J8 ds (d.count n)else n
def Prog.count(p:Prog):Int:=J8 p.decls (p.main.count 0)
def KR:∀(l:List A3)(n:Int),(∀t,t∈l->t.length<=lim)->n<=Jb l n/\Jb l n<=max n (2000+6000000000000)
 |[],n,_=>by simp only[Jb];omega
 |t::E,n,h=>by simp only[Jb];split;have L:=Sh (h t (by simp));have J:=KR E (n+1+((t.length / 50:Nat):Int)) (λu I=>h u (by simp[I]));omega;omega
def pW:∀(l:List A4)(n:Int),(∀t,t∈l->t.Ok)->n<=Ez l n/\Ez l n<=max n (2000+10000000000000)
 |[],n,_=>by simp only[Ez];omega
 |t::E,n,h=>by simp only[Ez];split;have L:=A4.Kq t n (h t (by simp));have J:=pW E (t.count n) (λu I=>h u (by simp[I]));omega;omega
def PB(d:Decl)(n:Int)(h:d.Ok):n<=d.S8 n/\d.S8 n<=max n (2000+20000000000000):=by have I:=A4.Kq d.sig n h.sig;have E:=Ex.Kq d.body (d.sig.count n) h.body;unfold Decl.S8;split <;> omega
def Decl.Kq(d:Decl)(n:Int)(h:d.Ok):n<=d.count n/\d.count n<=max n 2000+30000000000000:=by have W:=Sh h.name;have L:=Sh h.recv;unfold Decl.count;generalize U:n+1+((d.name.length / 50:Nat):Int)+((d.recv.length / 50:Nat):Int)=n0;have O:=YK d.A1 n0 h.A1.2;have I:=kM d.fields (Cf d.A1 n0) h.fields.2;have E:=pW d.sigs (Dj d.fields (Cf d.A1 n0)) h.sigs.2;have J:=KR d.vars (Ez d.sigs (Dj d.fields (Cf d.A1 n0))) h.vars.2;have V:=PB d (Jb d.vars (Ez d.sigs (Dj d.fields (Cf d.A1 n0)))) h;omega
abbrev Ky:=[0,1,2,3,4,5,6,7,19,53,71,85]
set_option maxHeartbeats 2000000 in
def yw(p:Prog):Ab prog 37 [Cs p] (A6 p.count):=by
 refine Ci.bd (Enters.of func37 rfl (by decide)) λa7=>?_;have a5:=eM a7.1;have he:=Ex.Kq p.main 0 a5.main;have hl:=a5.decls.1;have a2:p.count=J8 p.decls (p.main.count 0):=rfl;refine cB func37 ?_;refine sR Ky ?_;refine sQ Ky λK L=>?_;refine ev ?_;refine⟨A6 (p.main.count 0),.inl ⟨_,rfl,nY _ 0 (by omega) (by unfold cap;omega),rfl⟩,?_⟩;refine ev ?_;apply L;generalize p.main.count 0=n1 at*;refine sK λK1 u1=>?_;have U:∀sl bx,sle sl [(3,A6 (J8 p.decls n1))]->ble bx []->K1 sl bx:=by intro sl bx h1 h2;refine u1 _ _ (A0.ww h1 h2 ?_);refine sR Ky ?_;rw[a2];exact aR
 refine sR Ky ?_;refine bA (A0.loop (X:=Nat × Int) (λx=>[(3,A6 x.2),(4,A6 x.1),(1,.box 1 0)]) (λ_=>[(1,.cells ((Ah p).map .d))]) (λx=>x.1<=p.decls.length/\0<=x.2/\x.2<=100000000000000/\J8 (p.decls.drop x.1) x.2=J8 p.decls n1) (λx=>p.decls.length - x.1) (0,n1) ?_ ?_ ?_ ?_);exact⟨by simp,by omega,by omega,by first|rfl|simp⟩;exact sS;exact(by simp[ble,A9,Ah]);rintro⟨j,k⟩ ⟨hj,a8,a9,E⟩;simp only at hj a8 a9 E;by_cases O:(j:Int)<(p.decls.length:Int)
 .have J:j<p.decls.length:=by omega
  have hy:p.decls[j]?=some p.decls[j]:=Bu J;have a6:p.decls[j]∈p.decls:=Gc J;have dp:p.decls.drop j=p.decls[j]::p.decls.drop (j+1):=H7 J;generalize p.decls[j]=y at*;have I:=a5.decls.2 y a6;rw[dp,J8]at E;refine sK λW u2=>?_;by_cases Z:k<=2000
  .rw[A7 Z]at E;refine Ee O Z Ky ?_;refine eA rfl (cA (u2 _ _ ?_));refine sK λW u2=>?_;have U:∀sl bx,sle sl [(3,A6 (y.count k)),(4,A6 j),(1,.box 1 0)]->ble bx [(1,.cells ((Ah p).map .d))]->W sl bx:=by intro sl bx h1 h2;refine u2 _ _ (A0.ww h1 h2 ?_);refine lQ Ky λK L=>?_;refine ev ?_;refine⟨by unfold B6;unfold lim at*;omega,?_⟩;(apply L;try simp only[Aa,]);have hb:=Decl.Kq y k I;exact⟨(j+1,y.count k),⟨by simp only;omega,by simp only;omega,by simp only;omega,E⟩,by simp only;omega,by simp[sle,B0,Ae],(by simp[ble,A9,Ah])⟩
   have a1:y.count k=y.S8 (Jb y.vars (Ez y.sigs (Dj y.fields (Cf y.A1 (k+1+((y.name.length / 50:Nat):Int)+((y.recv.length / 50:Nat):Int)))))):=rfl;generalize y.count k=res at*;have ae:=Sh I.name;have ad:=Sh I.recv;refine bA ?_;refine sQ Ky λK L=>?_;refine ev ?_;refine⟨by omega,Am y,E6 hy,rfl,?_⟩;refine ev ?_;apply L;refine sG Ky [] 17 [] λK L=>?_;simp -implicitDefEqProofs only[EV,D8,Nat.reduceAdd,Nat.reduceEqDiff,Int.reduceEq,reduceCtorEq,];generalize aa:k+1+((y.name.length / 50:Nat):Int)+((y.recv.length / 50:Nat):Int)=n2 at*;have h3:=YK y.A1 n2 I.A1.2;have h4:=kM y.fields (Cf y.A1 n2) I.fields.2;refine⟨(by first| (unfold B6;omega)| (simp only[B6,sm,lim]at*;omega)),(by first| (unfold B6;omega)| (simp only[B6,sm,lim]at*;omega)),(by first| (unfold B6;omega)| (simp only[B6,sm,lim]at*;omega)),(by first| (unfold B6;omega)| (simp only[B6,sm,lim]at*;omega)),(by first| (unfold B6;omega)| (simp only[B6,sm,lim]at*;omega)),A6 (Cf y.A1 n2),.inl ⟨_,rfl,HZ _ _ (by omega) (by unfold cap;omega),rfl⟩,?_⟩;refine ev ?_;refine⟨A6 (Dj y.fields (Cf y.A1 n2)),.inl ⟨_,rfl,ji _ _ (by omega) (by unfold cap;omega),rfl⟩,?_⟩;refine ev ?_;apply L
   generalize ac:Dj y.fields (Cf y.A1 n2)=n3 at*;have a':=I.sigs.1;have ag:=I.vars.1;have h5:=pW y.sigs n3 I.sigs.2;have h6:=KR y.vars (Ez y.sigs n3) I.vars.2;have ab:=A4.Kq y.sig (Jb y.vars (Ez y.sigs n3)) I.sig;have ah:=Ex.Kq y.body (y.sig.count (Jb y.vars (Ez y.sigs n3))) I.body;refine sK λK3 u3=>?_;have U:∀sl bx,sle sl [(3,A6 (Ez y.sigs n3)),(4,A6 j),(1,.box 1 0),(5,.box 5 0)]->ble bx [(1,.cells ((Ah p).map .d)),(5,.cells ((Am y).map .d))]->K3 sl bx:=by
    intro sl bx h1 h2;refine u3 _ _ (A0.ww h1 h2 ?_);generalize af:Ez y.sigs n3=n4 at*;refine sK λK3 u3=>?_;have U:∀sl bx,sle sl [(3,A6 (Jb y.vars n4)),(4,A6 j),(1,.box 1 0),(5,.box 5 0)]->ble bx [(1,.cells ((Ah p).map .d)),(5,.cells ((Am y).map .d))]->K3 sl bx:=by intro sl bx h1 h2;refine u3 _ _ (A0.ww h1 h2 ?_);generalize ai:Jb y.vars n4=n5 at*;refine sR Ky ?_;unfold Decl.S8 at a1;by_cases V:n5<=2000;rw[A7 V]at a1;refine eA (by simp[Aq,Ae,V]) ?_;refine lG Ky [] 6 [] λK L=>?_;refine Bb V ?_;refine⟨A6 (y.sig.count n5),.inl ⟨_,rfl,oX _ _ (by omega) (by unfold cap;omega),rfl⟩,?_⟩;refine ev ?_;refine⟨A6 (y.body.count (y.sig.count n5)),.inl ⟨_,rfl,nY _ _ (by omega) (by unfold cap;omega),rfl⟩,?_⟩;refine ev ?_;(apply L;try simp only[Aa,Af]);exact U _ _ (by simp[sle,B0,Ae,a1]) (by simp[ble,A9,Ah]);rw[A5 V]at a1;refine dA (by simp[Aq,Ae,V]) (cA ?_);simp only[Aa,Af];exact U _ _ (by simp[sle,B0,Ae,a1]) (by simp[ble,A9,Ah])
    refine sR Ky ?_;refine bA (A0.loop (X:=Nat × Int) (λx=>[(3,A6 x.2),(7,A6 x.1),(4,A6 j),(1,.box 1 0),(5,.box 5 0)]) (λ_=>[(1,.cells ((Ah p).map .d)),(5,.cells ((Am y).map .d))]) (λx=>x.1<=y.vars.length/\0<=x.2/\x.2<=cap+100000000000000/\Jb (y.vars.drop x.1) x.2=Jb y.vars n4) (λx=>y.vars.length - x.1) (0,n4) ?_ ?_ ?_ ?_);exact⟨by simp,by omega,by unfold cap at*;omega,by first|rfl|simp⟩;simp[sle,B0,Ae];exact(by simp[ble,A9,Am,Ah]);rintro⟨i,m⟩ ⟨hi,a3,a4,E⟩;simp only at hi a3 a4 E;by_cases O:(i:Int)<(y.vars.length:Int)
    .have J:i<y.vars.length:=by omega
     have hx:y.vars[i]?=some y.vars[i]:=Bu J;have a0:y.vars[i]∈y.vars:=Gc J;have dp:y.vars.drop i=y.vars[i]::y.vars.drop (i+1):=H7 J;generalize y.vars[i]=x at*;rw[dp,Jb]at E;refine sK λW u2=>?_;by_cases Z:m<=2000;rw[A7 Z]at E;refine Ee O Z Ky ?_;refine eA rfl (cA (u2 _ _ ?_));refine sK λW u2=>bA ?_;refine lQ Ky λK L=>?_;simp -implicitDefEqProofs only[EV,D8,Nat.reduceEqDiff,reduceCtorEq,];have hq:=Sh (I.vars.2 x a0);refine⟨(by first| (unfold B6;omega)| (simp only[B6,sm,lim]at*;omega)),by omega,_,Jj hx,rfl,?_⟩;refine ev ?_;refine⟨(by first| (unfold B6;omega)| (simp only[B6,sm,lim]at*;omega)),by unfold B6 cap at*;omega,?_⟩;(apply L;try simp only[Aa,Af]);apply u2;refine lQ Ky λK L=>?_;refine ev ?_;refine⟨by unfold B6;unfold lim at*;omega,?_⟩;(apply L;try simp only[Aa,]);have hb:=Sh (I.vars.2 x a0);exact⟨(i+1,m+1+((x.length / 50:Nat):Int)),⟨by simp only;omega,by simp only;omega,by simp only;unfold cap;omega,E⟩,by simp only;omega,by simp[sle,B0,Ae],(by simp[ble,A9,Am,Ah])⟩;rw[A5 Z]at E;refine Ee O Z Ky ?_;refine dA rfl (lA ?_);simp only[Aa,Af,Av];exact U _ _ (by simp[sle,B0,Ae,E]) (by simp[ble,A9,Am,Ah])
    refine Ag O Ky λW u2=>?_;refine dA rfl (lA ?_);simp only[Aa,Af,Av];rw[Jk (by omega),Jb]at E;exact U _ _ (by simp[sle,B0,Ae,E]) (by simp[ble,A9,Am,Ah])
   refine sR Ky ?_;refine bA (A0.loop (X:=Nat × Int) (λx=>[(3,A6 x.2),(6,A6 x.1),(4,A6 j),(1,.box 1 0),(5,.box 5 0)]) (λ_=>[(1,.cells ((Ah p).map .d)),(5,.cells ((Am y).map .d))]) (λx=>x.1<=y.sigs.length/\0<=x.2/\x.2<=cap+100000000000000/\Ez (y.sigs.drop x.1) x.2=Ez y.sigs n3) (λx=>y.sigs.length - x.1) (0,n3) ?_ ?_ ?_ ?_);exact⟨by simp,by omega,by unfold cap at*;omega,by first|rfl|simp⟩;simp[sle,B0,Ae];exact(by simp[ble,A9,Am,Ah]);rintro⟨i,m⟩ ⟨hi,a3,a4,E⟩;simp only at hi a3 a4 E;by_cases O:(i:Int)<(y.sigs.length:Int)
   .have J:i<y.sigs.length:=by omega
    have hx:y.sigs[i]?=some y.sigs[i]:=Bu J;have a0:y.sigs[i]∈y.sigs:=Gc J;have dp:y.sigs.drop i=y.sigs[i]::y.sigs.drop (i+1):=H7 J;generalize y.sigs[i]=x at*;rw[dp,Ez]at E;refine sK λW u2=>?_;by_cases Z:m<=2000;rw[A7 Z]at E;refine Ee O Z Ky ?_;refine eA rfl (cA (u2 _ _ ?_));refine sK λW u2=>bA ?_;refine lQ Ky λK L=>?_;refine ev ?_;refine⟨by omega,Dp x,Dg hx,rfl,?_⟩;refine ev ?_;refine⟨A6 (x.count m),.inl ⟨_,rfl,oX x m a3 (by unfold cap;omega),rfl⟩,?_⟩;refine ev ?_;(apply L;try simp only[Aa,Af]);apply u2;refine lQ Ky λK L=>?_;refine ev ?_;refine⟨by unfold B6;unfold lim at*;omega,?_⟩;(apply L;try simp only[Aa,]);have hb:=A4.Kq x m (I.sigs.2 x a0);exact⟨(i+1,x.count m),⟨by simp only;omega,by simp only;omega,by simp only;unfold cap;omega,E⟩,by simp only;omega,by simp[sle,B0,Ae],(by simp[ble,A9,Am,Ah])⟩;rw[A5 Z]at E;refine Ee O Z Ky ?_;refine dA rfl (lA ?_);simp only[Aa,Af,Av];exact U _ _ (by simp[sle,B0,Ae,E]) (by simp[ble,A9,Am,Ah])
   refine Ag O Ky λW u2=>?_;refine dA rfl (lA ?_);simp only[Aa,Af,Av];rw[Jk (by omega),Ez]at E;exact U _ _ (by simp[sle,B0,Ae,E]) (by simp[ble,A9,Am,Ah])
  rw[A5 Z]at E;refine Ee O Z Ky ?_;refine dA rfl (lA ?_);simp only[Aa,Af,Av];exact U _ _ (by simp[sle,B0,Ae,E]) sB
 refine Ag O Ky λW u2=>?_;refine dA rfl (lA ?_);simp only[Aa,Af,Av];rw[Jk (by omega),J8]at E;exact U _ _ (by simp[sle,B0,Ae,E]) sB
def Prog.Kq(p:Prog)(h:p.Ok):0<=p.count:=by
 have V:=(Ex.Kq p.main 0 h.main).1;have J:∀(l:List Decl) (n:Int),(∀d,d∈l->d.Ok)->n<=J8 l n:=by
  intro l
  induction l with
  |nil=>intro n _;simp[J8]
  |cons d l I =>intro n E;simp only[J8];split;have L:=Decl.Kq d n (E d (by simp));have U:=I (d.count n) (λu O=>E u (by simp[O]));omega;omega
 have L:=J p.decls (p.main.count 0) h.decls.2;unfold Prog.count;omega
def G0i(p:Prog):Ab prog 15 [Cs p] (Ar (decide (p.count<=600))):=by refine cB func15 ?_;refine sR [0,1,2] ?_;refine sC (yw p) [0,1,2] ?_;exact aR
def Decl.E5(d:Decl)(nm:A3):Bool:=(decide (d.kind=1) ||decide (d.kind=2)) && decide (d.name=nm)
def findD(nm:A3):List Decl->Nat->Int
 |[],_=>-1
 |d::ds,i=>if d.E5 nm=true then i else findD nm ds (i+1)
abbrev Sf:=[0,1,2,4,5,10,38]
def PI(p:Prog)(nm:A3):Ab prog 126 [Cs p,Bo nm] (A6 (findD nm p.decls 0)):=by
 refine Ci.bd (Enters.of func126 rfl (by decide)) λa1=>?_;have a2:=eM a1.1;have hl:=a2.decls.1;refine cB func126 ?_;refine sR Sf<|sK λK1 u1=>?_;have a0:∀sl bx,findD nm p.decls 0 = -1->K1 sl bx:=by intro sl bx h1;refine u1 _ _ (A0.ww (sl':=[]) (bx':=[]) trivial trivial ?_);refine sR Sf ?_;rw[h1];exact aR
 refine sR Sf ?_;refine bA (A0.loop (X:=Nat) (λx=>[(5,A6 x),(1,Bo nm),(2,.box 2 0)]) (λ_=>[(2,.cells ((Ah p).map .d))]) (λx=>x<=p.decls.length/\findD nm (p.decls.drop x) x=findD nm p.decls 0) (λx=>p.decls.length - x) 0 ?_ ?_ ?_ ?_);exact⟨by simp,rfl⟩;exact sS;exact(by simp[ble,A9,Ah]);rintro j ⟨hj,E⟩;by_cases W:(j:Int)<(p.decls.length:Int)
 .have U:j<p.decls.length:=by omega
  have Z:p.decls[j]?=some p.decls[j]:=Bu U;have dp:p.decls.drop j=p.decls[j]::p.decls.drop (j+1):=H7 U;generalize p.decls[j]=y at*;rw[dp,findD]at E;refine Ag W Sf λV u2=>?_;refine eA rfl (cA (u2 _ _ ?_));refine sK λV u2=>bA ?_;by_cases L:y.kind=1
  .by_cases O:y.name=nm
   ·(refine sQ Sf λK I=>?_;simp -implicitDefEqProofs only[EV,D8,Nat.reduceEqDiff,reduceCtorEq,])
    repeat (refine⟨by omega,Am y,E6 Z,rfl,?_⟩;refine G1 L O ?_)
    (apply I)
    have ht:y.E5 nm=true:=by simp[Decl.E5,L,O]
    rw[A7 ht]at E;refine eA rfl<|sR Sf ?_;rw[<-E];exact aR
   ·(refine sQ Sf λK I=>?_;simp -implicitDefEqProofs only[EV,D8,Nat.reduceEqDiff,reduceCtorEq,])
    repeat (refine⟨by omega,Am y,E6 Z,rfl,?_⟩;refine G1 L O ?_)
    (apply I)
    have ht:¬y.E5 nm=true:=by simp[Decl.E5,L,O]
    rw[A5 ht]at E;refine dA rfl (cA ?_);simp only[Aa,Af];apply u2
    (refine lQ Sf λK I=>?_;refine ev ?_)
    refine⟨by unfold B6;unfold lim at*;omega,?_⟩
    (apply I;try simp only[Aa,])
    exact⟨j+1,⟨by omega,E⟩,by omega,by simp[sle,B0,Ae],(by simp[ble,A9,Ah])⟩
  .by_cases J:y.kind=2
   .by_cases O:y.name=nm
    ·(refine sQ Sf λK I=>?_;simp -implicitDefEqProofs only[EV,D8,Nat.reduceEqDiff,reduceCtorEq,])
     repeat (refine⟨by omega,Am y,E6 Z,rfl,?_⟩;refine G1 J O ?_)
     (apply I)
     have ht:y.E5 nm=true:=by simp[Decl.E5,J,O]
     rw[A7 ht]at E;refine eA rfl<|sR Sf ?_;rw[<-E];exact aR
    ·(refine sQ Sf λK I=>?_;simp -implicitDefEqProofs only[EV,D8,Nat.reduceEqDiff,reduceCtorEq,])
     repeat (refine⟨by omega,Am y,E6 Z,rfl,?_⟩;refine G1 J O ?_)
     (apply I)
     have ht:¬y.E5 nm=true:=by simp[Decl.E5,J,O]
     rw[A5 ht]at E;refine dA rfl (cA ?_);simp only[Aa,Af];apply u2
     (refine lQ Sf λK I=>?_;refine ev ?_)
     refine⟨by unfold B6;unfold lim at*;omega,?_⟩
     (apply I;try simp only[Aa,])
     exact⟨j+1,⟨by omega,E⟩,by omega,by simp[sle,B0,Ae],(by simp[ble,A9,Ah])⟩
   ·(refine sQ Sf λK I=>?_;simp -implicitDefEqProofs only[EV,D8,Nat.reduceEqDiff,reduceCtorEq,])
    repeat (refine⟨by omega,Am y,E6 Z,rfl,?_⟩;refine G1 L J ?_)
    (apply I)
    have ht:¬y.E5 nm=true:=by simp[Decl.E5,L,J]
    rw[A5 ht]at E;refine dA rfl (cA ?_);simp only[Aa,Af];apply u2
    (refine lQ Sf λK I=>?_;refine ev ?_)
    refine⟨by unfold B6;unfold lim at*;omega,?_⟩
    (apply I;try simp only[Aa,])
    exact⟨j+1,⟨by omega,E⟩,by omega,by simp[sle,B0,Ae],(by simp[ble,A9,Ah])⟩
 refine Ag W Sf λV u2=>?_;refine dA rfl (lA ?_);simp only[Aa,Af,Av];rw[Jk (by omega),findD]at E;exact a0 _ _ E.symm
def kindOf(p:Prog)(nm:A3):Int:=match p.decls.find? (λd=>d.E5 nm)with
 |some d=>d.kind
 |none=>0
def lK(nm:A3):∀(l:List Decl)(i:Nat),(findD nm l i = -1/\l.find? (λd=>d.E5 nm)=none)\/∃k d,l[k]?=some d/\findD nm l i=((i+k:Nat):Int)/\l.find? (λd=>d.E5 nm)=some d
 |[],i=>by simp[findD]
 |d::ds,i=>by simp only[findD,Y6];split;rename_i h;exact .inr ⟨0,d,rfl,rfl,by simp[h]⟩;rename_i h;rcases lK nm ds (i+1)with⟨E,I⟩|⟨k,L,E,I,J⟩;exact .inl ⟨E,by simp[h,I]⟩;exact .inr ⟨k+1,L,by simpa using E,by rw[I];congr 1;omega,by simp[h,J]⟩
abbrev XH:=[0,1,2,4,5,10]
def yK(p:Prog)(nm:A3):Ab prog 124 [Cs p,Bo nm] (A6 (kindOf p nm)):=by
 refine Ci.bd (Enters.of func124 rfl (by decide)) λJ=>?_;have L:=eM J.1;have hl:=L.decls.1;refine cB func124 ?_;refine sR XH ?_;refine sC (PI p nm) XH<|sK λV u1=>?_;rcases lK nm p.decls 0 with⟨O,E⟩|⟨k,d,O,E,W⟩
 .rw[O];have I:kindOf p nm=0:=by simp[kindOf,E]
  refine sR XH ?_;refine eA rfl<|sR XH ?_;rw[I];exact aR
 .rw[E];have I:kindOf p nm=d.kind:=by simp[kindOf,W]
  have Z:¬((0+k:Nat):Int)<0:=by omega
  have a0:((0+k:Nat):Int).toNat=k:=by omega
  refine sR XH ?_;refine dA rfl (cA (u1 _ _ ?_));refine sQ XH λK U=>?_;refine ev ?_;refine⟨by omega,Am d,E6 O,rfl,?_⟩;refine ev ?_;apply U;rw[I];exact aR
abbrev DC:=[0,1,4,5,9,17]
def iI(l:List A3)(s:A3):Ab prog 187 [Cm l,Bo s] (Ar (decide (s∈l))):=by
 refine Ci.bd (Enters.of func187 rfl (by decide)) λW=>?_;have hl:=(FE W.1).1;refine cB func187 ?_;refine sR DC<|sK λZ u1=>?_;have V:∀sl bx,¬s∈l->Z sl bx:=by intro sl bx h1;refine u1 _ _ (A0.ww (sl':=[]) (bx':=[]) trivial trivial ?_);refine sR DC ?_;rw[Cb h1];exact aR
 refine sR DC ?_;refine bA (A0.loop (X:=Nat) (λx=>[(5,A6 x),(0,Cm l),(1,Bo s)]) (λ_=>[]) (λx=>x<=l.length/\(s∈l↔s∈l.drop x)) (λx=>l.length - x) 0 ?_ ?_ ?_ ?_);exact⟨by simp,by simp⟩;exact sS;exact sB;rintro j ⟨hj,E⟩;by_cases L:(j:Int)<(l.length:Int)
 .have I:j<l.length:=by omega
  have hy:l[j]?=some l[j]:=Bu I;have a0:l[j]∈l:=Gc I;have dp:l.drop j=l[j]::l.drop (j+1):=H7 I;generalize l[j]=y at*;rw[dp,Ay]at E;refine Ag L DC λO u2=>?_;refine eA rfl (cA (u2 _ _ ?_));refine sK λO u2=>bA ?_;by_cases U:y=s
  ·(refine sQ DC λK J=>?_;refine ev ?_)
   refine⟨by omega,_,Jj hy,rfl,?_⟩;refine Bb U ?_
   (apply J)
   refine eA rfl<|sR DC ?_;rw[Bn (E.2 (.inl U.symm))];exact aR
  ·(refine sQ DC λK J=>?_;refine ev ?_)
   refine⟨by omega,_,Jj hy,rfl,?_⟩;refine Bb U ?_
   (apply J)
   refine dA rfl (cA ?_);simp only[Aa,Af];apply u2
   (refine lQ DC λK J=>?_;refine ev ?_)
   refine⟨by unfold B6;unfold lim at*;omega,?_⟩
   (apply J;try simp only[Aa,])
   exact⟨j+1,⟨by omega,by rw[E];exact⟨λh=>h.resolve_left (λh=>U h.symm),.inr⟩⟩,by omega,by simp[sle,B0,Ae],sB⟩
 refine Ag L DC λO u2=>?_;refine dA rfl (lA ?_);simp only[Aa,Af,Av];rw[Jk (by omega)]at E;exact V _ _ (by rw[E];simp)
def Bw:A3->A3->Int
 |[],[]=>0
 |[],_::_=>-1
 |_::_,[]=>1
 |x::xs,y::ys=>if x<y then -1 else if y<x then 1 else Bw xs ys
abbrev Qe:=[0,1,4,5,15,24,31,36,41]
def eN(a b:A3):Ab prog 129 [Bo a,Bo b] (A6 (Bw a b)):=by
 refine Ci.bd (Enters.of func129 rfl (by decide)) λa1=>?_;have a4:=Wn a1.1;have a5:=Wn a1.2.1;refine cB func129 ?_;refine sR Qe<|sK λZ u1=>?_;have a0:∀sl bx,sle sl [(0,Bo a),(1,Bo b)]->(Bw a b=if(a.length:Int)<b.length then -1 else if(b.length:Int)<a.length then 1 else 0)->Z sl bx:=by
  intro sl bx a2 hc;refine u1 _ _ (A0.ww (bx':=[]) a2 trivial ?_);refine sK λZ u1=>?_;by_cases h1:(a.length:Int)<b.length;refine Ak h1 Qe ?_;refine eA rfl<|sR Qe ?_;rw[hc,A7 h1];exact aR
  .refine Ak h1 Qe ?_;refine dA rfl (cA (u1 _ _ ?_));refine sK λZ u1=>?_;by_cases h2:(b.length:Int)<a.length;refine Ak h2 Qe ?_;refine eA rfl<|sR Qe ?_;rw[hc,A5 h1,A7 h2];exact aR
   refine Ak h2 Qe ?_;refine dA rfl (cA (u1 _ _ ?_));refine sR Qe ?_;rw[hc,A5 h1,A5 h2];exact aR
 refine sR Qe ?_;refine bA (A0.loop (X:=Nat) (λx=>[(5,A6 x),(0,Bo a),(1,Bo b)]) (λ_=>[]) (λx=>x<=a.length/\x<=b.length/\Bw (a.drop x) (b.drop x)=Bw a b) (λx=>a.length - x) 0 ?_ ?_ ?_ ?_);exact⟨by simp,by simp,rfl⟩;exact sS;exact sB;rintro j ⟨hj,a3,E⟩;by_cases W:(j:Int)<(a.length:Int)
 .by_cases U:(j:Int)<(b.length:Int)
  .have V:j<a.length:=by omega
   have I:j<b.length:=by omega
   have hx:a[j]?=some a[j]:=Bu V;have hy:b[j]?=some b[j]:=Bu I;rw[H7 V,H7 I,Bw]at E;generalize a[j]=x at*;generalize b[j]=y at*;refine Dq W U Qe λK2 u2=>?_;refine eA rfl (cA (u2 _ _ ?_));refine sK λK2 u2=>bA<|sK λK3 u3=>?_
   refine sG Qe [] 6 [] λK O=>?_;refine ev ?_;refine⟨by omega,x,hx,by omega,y,hy,?_⟩;apply O;have e1:∀u v:UInt8,(u.toNat:Int)<v.toNat↔u<v:=λu v=>by rw[JG];omega
   simp only[e1];by_cases L:x<y;rw[A7 L]at E;refine eA (by simp[Aq,Ae,L])<|sR Qe ?_;rw[<-E];exact aR
   .rw[A5 L]at E;refine dA (by simp[Aq,Ae,L]) (cA ?_);simp only[Aa,];apply u3;refine sG Qe [] 6 [] λK O=>?_;refine ev ?_;refine⟨by omega,x,hx,by omega,y,hy,?_⟩;apply O;simp only[e1];by_cases J:y<x;rw[A7 J]at E;refine eA (by simp[Aq,Ae,J])<|sR Qe ?_;rw[<-E];exact aR
    rw[A5 J]at E;refine dA (by simp[Aq,Ae,J]) (cA ?_);simp only[Aa,Af];apply u2;refine lQ Qe λK O=>?_;refine ev ?_;refine⟨by unfold B6;unfold lim at*;omega,?_⟩;(apply O;try simp only[Aa,]);exact⟨j+1,⟨by omega,by omega,E⟩,by omega,by simp[sle,B0,Ae],sB⟩
  refine Dq W U Qe λK2 u2=>?_;refine dA rfl (lA ?_);simp only[Aa,Af,Av];have hd:b.drop j=[]:=Jk (by omega);rw[hd,H7 (show j<a.length by omega),Bw]at E;exact a0 _ _ sS (by rw[<-E,A5 (by omega),A7 (by omega)])
 refine Ag W Qe λK2 u2=>?_;refine dA rfl (lA ?_);simp only[Aa,Af,Av];have hd:a.drop j=[]:=Jk (by omega);rw[hd]at E;refine a0 _ _ sS ?_;rw[<-E];by_cases hb:j<b.length;rw[H7 hb,Bw,A7 (by omega)];rw[Jk (by omega),Bw,A5 (by omega),A5 (by omega)]
def XK:∀{a b:A3},Bw a b<0↔a<b
 |[],[]=>by simp[Bw]
 |[],y::ys=>by simp[Bw]
 |x::xs,[]=>by simp[Bw]
 |x::xs,y::ys=>by
  rw[Bw,List.cons_lt_cons_iff];split;rename_i h;simp[h]
  .rename_i h;split
   .rename_i E;have:x≠y:=by rintro rfl;exact h E
    simp[h,this]
   rename_i E;have:x=y:=UInt8.le_antisymm (UInt8.not_lt.1 E) (UInt8.not_lt.1 h);rw[XK];simp[this]
def ins(s:A3):List A3->List A3
 |[]=>[s]
 |x::xs=>if Bw s x<0 then s::x::xs else x::ins s xs
def Te(l:List A3)(s:A3):List A3:=if s∈l then l else ins s l
def eS(s:A3):∀l,(ins s l).length=l.length+1
 |[]=>rfl
 |x::xs=>by simp only[ins];split <;> simp[eS s xs]
abbrev Po:=[0,1,4,5,6,7,10,15,28,41]
def H5f(l:List A3)(s:A3)(a2:l.length<=1000000):Ab prog 325 [Cm l,Bo s] (Cm (Te l s)):=by
 refine cB func325 ?_;refine sR Po ?_;refine kC (iI l s) Po λW u1=>?_;by_cases L:s∈l;refine eA (by simp[Aq,Ae,L])<|sR Po ?_;rw[Te,A7 L];exact aR
 refine dA (by simp[Aq,Ae,L]) (cA (u1 _ _ ?_));refine sR Po ?_;refine sR Po ?_;refine A0.pp 5 1 5 rfl<|sK λW u1=>?_;have a1:∀sl bx (b:Bool) r,sle sl [(1,Bo s),(5,.acc 5),(6,Ar b)]->ble bx [(5,.rows 1 (Bq r))]->r.length<=l.length+1->(if b then r else r++[s])=ins s l->W sl bx:=by
  intro sl bx b r h1 Z hr hb;refine u1 _ _ (A0.ww h1 Z ?_);refine kR Po λW u1=>?_;cases b with
  |true =>refine dA rfl (cA (u1 _ _ ?_));refine sR Po ?_;simp only[Av]at hb;rw[Te,A5 L,<-hb];exact aR
  |false =>
   refine eA rfl ?_;refine lQ Po λK I=>?_;refine ev ?_;refine⟨by simp,by unfold lim;omega,?_⟩;(apply I;try simp only[Aa,]);apply u1;refine sR Po ?_;have e:Bq r++[[D.str s]]=Bq (r++[s]):=by simp[Bq]
   simp only[Iu,Gi]at hb;rw[Te,A5 L,<-hb,e];exact aR
 refine sR Po ?_;refine bA (A0.loop (X:=Nat × Bool × List A3) (λx=>[(7,A6 x.1),(0,Cm l),(1,Bo s),(5,.acc 5),(6,Ar x.2.1)]) (λx=>[(5,.rows 1 (Bq x.2.2))]) (λx=>x.1<=l.length/\x.2.2++(if x.2.1 then l.drop x.1 else ins s (l.drop x.1))=ins s l) (λx=>l.length - x.1) (0,false,[]) ?_ ?_ ?_ ?_);exact⟨by simp,by simp⟩;exact sS;simp[ble,A9,Bq]
 rintro⟨j,b,r⟩ ⟨hj,E⟩;simp only at hj E;have O:=F8 List.length E;simp only[B5,eS]at O;have V:r.length=if b then j+1 else j:=by
  cases b;simp only[Iu,Gi,eS,yJ]at O |-;omega
  simp only[Av,yJ]at O |-;omega
 by_cases a0:(j:Int)<(l.length:Int)
 .have U:j<l.length:=by omega
  have hy:l[j]?=some l[j]:=Bu U;have dp:l.drop j=l[j]::l.drop (j+1):=H7 U;generalize l[j]=y at*;rw[dp]at E;refine Ag a0 Po λK2 u2=>?_;refine eA rfl (cA (u2 _ _ ?_));refine sK λK2 u2=>bA<|sK λK3 u3=>?_;have J:∀sl bx (b':Bool) r',sle sl [(7,A6 j),(0,Cm l),(1,Bo s),(5,.acc 5),(6,Ar b')]->ble bx [(5,.rows 1 (Bq r'))]->r'.length<=l.length->r'++y::(if b' then l.drop (j+1)else ins s (l.drop (j+1)))=ins s l->K3 sl bx:=by intro sl bx b' r' h1 Z a3 h3;refine u3 _ _ (A0.ww h1 Z ?_);refine lQ Po λK I=>?_;refine ev ?_;refine⟨by omega,_,Jj hy,rfl,?_⟩;refine ev ?_;refine⟨by simp,by unfold lim;omega,?_⟩;(apply I;try simp only[Aa,Af]);apply u2;refine lQ Po λK I=>?_;refine ev ?_;refine⟨by unfold B6;omega,?_⟩;(apply I;try simp only[Aa,]);exact⟨(j+1,b',r'++[y]),⟨by simp only;omega,by simpa using h3⟩,by simp only;omega,by simp[sle,B0,Ae],by simp[ble,A9,Bq]⟩
  cases b with
  |true =>simp only[Av]at E V;refine sR Po ?_;refine dA rfl (cA ?_);simp only[Aa,];exact J _ _ true r sS sB (by omega) E
  |false =>
   simp only[Iu,Gi,ins]at E V;refine sQ Po λK I=>?_;refine ev ?_;refine⟨by omega,_,Jj hy,rfl,?_⟩;refine ev ?_;refine⟨A6 (Bw s y),.inl ⟨_,rfl,eN s y,rfl⟩,?_⟩;refine ev ?_;apply I;by_cases hc:Bw s y<0
   .rw[A7 hc]at E;refine eA (by simp[Aq,Ae,hc]) ?_;have a4:r.length<=l.length:=by omega
    have e:Bq r++[[D.str s]]=Bq (r++[s]):=by simp[Bq]
    refine sQ Po λK I=>?_;refine ev ?_;refine⟨by simp,by unfold lim;omega,?_⟩;rw[e];apply I;(refine lV Po λK z=>?_;apply z;try simp only[Aa,]);exact J _ _ true (r++[s]) sS sB (by simp only[B5,Bg,Ck];omega) (by simpa using E)
   rw[A5 hc]at E;refine dA (by simp[Aq,Ae,hc]) (cA ?_);simp only[Aa,];exact J _ _ false r sS sB (by omega) (by simpa using E)
 refine Ag a0 Po λK2 u2=>?_;refine dA rfl (lA ?_);simp only[Aa,Af,Av];rw[Jk (by omega)]at E;exact a1 _ _ b r sS sB (by cases b <;> simp only[Av,Iu,Gi]at V <;> omega) (by rw[<-E];cases b <;> simp[ins])
mutual
def Ty.structs(p:Prog):Ty->List A3->List A3
 |.mk n a _,acc=>if kindOf p n=1 then Ty.Ps p a (Te acc n)else acc
def Ty.Ps(p:Prog):List Ty->List A3->List A3
 |[],acc=>acc
 |t::E,acc=>Ty.Ps p E (t.structs p acc)
end
def gG(p:Prog)(t:Ty)(acc:List A3):t.structs p acc=if kindOf p t.name=1 then Ty.Ps p t.args (Te acc t.name)else acc:=by cases t;rfl
structure C8(p:Prog)(l:List A3):Prop where
 nodup:l.Nodup
 T4:∀s,s∈l->kindOf p s=1
variable {s:A3}
def r7{p:Prog}(h:kindOf p s=1):s∈p.decls.map Decl.name:=by unfold kindOf at h;split at h;rename_i d hd;have I:=vN hd;have E:=oR hd;simp only[Decl.E5,Bh,Di]at E;exact Ap.2 ⟨d,I,E.2⟩;simp at h
def HK{α:Type}[DecidableEq α]:∀{l m:List α},l.Nodup->(∀x,x∈l->x∈m)->l.length<=m.length
 |[],_,_,_=>by simp
 |x::l,m,h,hs=>by have I:=hs x (by simp);obtain⟨O,J⟩:=Vm.1 h;have L:l.length<=(m.erase x).length:=HK J λy E=>(List.mem_erase_of_ne (by rintro rfl;exact O E)).2 (hs y (by simp[E]));rw[List.length_erase_of_mem I]at L;have:=List.length_pos_of_mem I;simp only[Bg];omega
def C8.len{p:Prog}{l:List A3}(h:C8 p l):l.length<=p.decls.length:=by have:=HK h.nodup λs hs=>r7 (h.T4 s hs);simpa using this
theorem C8.nil(p:Prog):C8 p []:=⟨by simp,by simp⟩
def NU{s x:A3} :∀{l:List A3},x∈ins s l↔x=s\/x∈l
 |[]=>by simp[ins]
 |y::ys=>by simp only[ins];split;simp;simp only[Ay,NU];constructor;rintro(h|h|h) <;> simp[h];rintro(h|h|h) <;> simp[h]
def CT{s x:A3}{l:List A3} :x∈Te l s↔x=s\/x∈l:=by unfold Te;split;constructor;exact .inr;rintro(rfl|h);assumption;exact h;exact NU
def vZ(s:A3):∀l:List A3,(ins s l).Perm (s::l)
 |[]=>.refl _
 |y::ys=>by simp only[ins];split;exact .refl _;exact((vZ s ys).cons y).trans (.swap s y ys)
def G1b{l:List A3}(h:l.Nodup):(Te l s).Nodup:=by unfold Te;split;exact h;rename_i hs;rw[(vZ s l).nodup_iff];exact Vm.2 ⟨hs,h⟩
def C8.put{p:Prog}{l:List A3}(h:C8 p l)(hs:kindOf p s=1):C8 p (Te l s) :=⟨G1b h.nodup,λx hx=>by
  rcases CT.1 hx with rfl|hx
  .exact hs
  .exact h.T4 x hx⟩
mutual
theorem C8.structs{p:Prog}:∀(t:Ty) {l:List A3},C8 p l->C8 p (t.structs p l)
 |.mk n a q,l,h=>by simp only[Ty.structs];split;exact C8.Ps a (h.put (by assumption));exact h
theorem C8.Ps{p:Prog}:∀(E:List Ty) {l:List A3},C8 p l->C8 p (Ty.Ps p E l)
 |[],_,h=>h
 |t::E,_,h=>C8.Ps E (C8.structs t h)
end
abbrev Z0:=[0,1,2,3,4,6,7,12,22]
def G8o(p:Prog)(hp:p.decls.length<=100000):∀(t:Ty)(acc:List A3),C8 p acc->Ab prog 307 [Cs p,Ba t,Cm acc] (Cm (t.structs p acc)):=by
 intro t
 induction t using Ty.induct with
 |h t ih =>
 intro acc L;refine Ci.bd (Enters.of func307 rfl (by decide)) λa2=>?_;have a0:=BQ a2.2.1;have hl:=a0.len;have I:=gG p t acc;refine cB func307 ?_;refine sR Z0 ?_;refine kC (yK p t.name) Z0 λK1 u1=>?_;by_cases V:kindOf p t.name=1;rotate_left
 .refine eA (by simp[Aq,Ae,V])<|sR Z0 ?_;rw[I,A5 V];exact aR
 refine dA (by simp[Aq,Ae,V]) (cA (u1 _ _ ?_));rw[A7 V]at I;have O:=L.put V;have a3:=L.len;refine sC (H5f acc t.name (by omega)) Z0 ?_;generalize Te acc t.name=acc2 at*;refine sK λK1 u1=>?_;have a1:∀sl bx,sle sl [(2,Cm (Ty.Ps p t.args acc2))]->K1 sl bx:=by intro sl bx h1;refine u1 _ _ (A0.ww (bx':=[]) h1 trivial ?_);refine sR Z0 ?_;rw[I];exact aR
 refine sR Z0 ?_;refine bA (A0.loop (X:=Nat × List A3) (λx=>[(2,Cm x.2),(7,A6 x.1),(3,.box 3 0),(4,.box 4 0)]) (λ_=>[(3,.cells ((Ah p).map .d)),(4,.cells ((Bf t).map .d))]) (λx=>x.1<=t.args.length/\C8 p x.2/\Ty.Ps p (t.args.drop x.1) x.2=Ty.Ps p t.args acc2) (λx=>t.args.length - x.1) (0,acc2) ?_ ?_ ?_ ?_)
 .exact⟨by simp,O,rfl⟩
 .exact sS
 .exact(by simp[ble,A9,Bf,Ah])
 rintro⟨j,r⟩ ⟨hj,hr,E⟩;simp only at hj hr E;by_cases W:(j:Int)<(t.args.length:Int)
 .have J:j<t.args.length:=by omega
  have hx:t.args[j]?=some t.args[j]:=Bu J;have Z:t.args[j]∈t.args:=Gc J;have dp:t.args.drop j=t.args[j]::t.args.drop (j+1):=H7 J;generalize t.args[j]=x at*;rw[dp,Ty.Ps]at E;refine Ag W Z0 λK2 u2=>?_;refine eA rfl (cA (u2 _ _ ?_));refine sK λK2 u2=>bA ?_
  (refine lG Z0 [] 7 [] λK U=>?_;refine ev ?_)
  refine⟨by omega,Bf x,Fs hx,rfl,?_⟩;refine ev ?_;refine⟨Cm (x.structs p r),.inl ⟨_,rfl,ih x Z r hr,rfl⟩,?_⟩;refine ev ?_
  (apply U;try simp only[Aa,Af])
  apply u2
  (refine lQ Z0 λK U=>?_;refine ev ?_)
  refine⟨by unfold B6;unfold lim at*;omega,?_⟩
  (apply U;try simp only[Aa,])
  exact⟨(j+1,x.structs p r),⟨by simp only;omega,C8.structs x hr,E⟩,by simp only;omega,by simp[sle,B0,Ae],(by simp[ble,A9,Bf,Ah])⟩
 .refine Ag W Z0 λK2 u2=>?_;refine dA rfl (lA ?_);simp only[Aa,Af,Av];rw[Jk (by omega),Ty.Ps]at E;exact a1 _ _ (by simp[sle,B0,Ae,E])
def Tw(p:Prog):List Param->List A3->List A3
 |[],acc=>acc
 |f::fs,acc=>Tw p fs (f.type.structs p acc)
def M7(p:Prog)(nm:A3)(acc:List A3):List A3:=match p.decls.find? (λd=>d.E5 nm)with
 |some d=>if d.kind=1 then Tw p d.fields acc else acc
 |none=>acc
def C8.fields{p:Prog} :∀(fs:List Param) {l:List A3},C8 p l->C8 p (Tw p fs l)
 |[],_,h=>h
 |t::E,_,h=>C8.fields E (C8.structs t.type h)
def C8.cont{p:Prog}{l:List A3}(nm:A3)(h:C8 p l):C8 p (M7 p nm l):=by unfold M7;split;split;exact h.fields _;exact h;exact h
abbrev Vg:=[0,1,2,3,6,7,8,22,32]
def HX(p:Prog)(hp:p.decls.length<=100000)(nm:A3)(acc:List A3)(Z:C8 p acc):Ab prog 271 [Cs p,Bo nm,Cm acc] (Cm (M7 p nm acc)):=by
 refine Ci.bd (Enters.of func271 rfl (by decide)) λa2=>?_;have a0:=eM a2.1;refine cB func271 ?_;refine sR Vg ?_;refine sC (PI p nm) Vg<|sK λK1 u1=>?_;rcases lK nm p.decls 0 with⟨L,h2⟩|⟨k,d,L,h2,h3⟩
 .rw[L];have O:M7 p nm acc=acc:=by simp[M7,h2]
  refine sR Vg ?_;refine eA rfl<|sR Vg ?_;rw[O];exact aR
 rw[h2];rw[Kf];have O:M7 p nm acc=if d.kind=1 then Tw p d.fields acc else acc:=by simp[M7,h3]
 have W:¬(k:Int)<0:=by omega
 rcases Decidable.em (d.kind=1)with hd|hd;rotate_left;rw[A5 hd]at O;refine sQ Vg λK E=>?_;refine Bb W ?_;refine⟨by omega,Am d,E6 L,rfl,?_⟩;simp -implicitDefEqProofs only[EV,Nat.reduceEqDiff,reduceCtorEq,hd];apply E;refine eA rfl<|sR Vg ?_;rw[O];exact aR
 rw[A7 hd]at O;have U:=a0.decls.2 d (Re.2 ⟨k,L⟩);have a4:=U.fields.1;refine sQ Vg λK E=>?_;refine Bb W ?_;refine⟨by omega,Am d,E6 L,rfl,?_⟩;simp -implicitDefEqProofs only[EV,Nat.reduceEqDiff,reduceCtorEq,hd];apply E;refine dA rfl (cA (u1 _ _ ?_));refine sK λK1 u1=>?_;have a1:∀sl bx,sle sl [(2,Cm (Tw p d.fields acc))]->K1 sl bx:=by intro sl bx L;refine u1 _ _ (A0.ww (bx':=[]) L trivial ?_);refine sR Vg ?_;rw[O];exact aR
 refine sR Vg ?_;refine bA (A0.loop (X:=Nat × List A3) (λx=>[(2,Cm x.2),(8,A6 x.1),(7,A6 k),(3,.box 3 0)]) (λ_=>[(3,.cells ((Ah p).map .d))]) (λx=>x.1<=d.fields.length/\C8 p x.2/\Tw p (d.fields.drop x.1) x.2=Tw p d.fields acc) (λx=>d.fields.length - x.1) (0,acc) ?_ ?_ ?_ ?_);exact⟨by simp,Z,rfl⟩;exact sS;exact(by simp[ble,A9,Ah]);rintro⟨j,r⟩ ⟨hj,hr,I⟩;simp only at hj hr I;by_cases V:(j:Int)<(d.fields.length:Int)
 .have J:j<d.fields.length:=by omega
  have hx:d.fields[j]?=some d.fields[j]:=Bu J;have a3:d.fields[j]∈d.fields:=Gc J;have dp:d.fields.drop j=d.fields[j]::d.fields.drop (j+1):=H7 J;generalize d.fields[j]=x at*;rw[dp,Tw]at I;refine sK λK2 u2=>?_;refine sQ Vg λK E=>?_;refine ev ?_;refine⟨by omega,Am d,E6 L,rfl,?_⟩;refine Bb V ?_;apply E;refine eA rfl (cA (u2 _ _ ?_));refine sK λK2 u2=>bA ?_;refine lG Vg [] 12 [] λK E=>?_;refine ev ?_;refine⟨by omega,Am d,E6 L,rfl,?_⟩;refine ev ?_;refine⟨by omega,G9 x,Dt hx,rfl,?_⟩;refine ev ?_;refine⟨Cm (x.type.structs p r),.inl ⟨_,rfl,G8o p hp x.type r hr,rfl⟩,?_⟩;refine ev ?_;(apply E;try simp only[Aa,Af]);apply u2;refine lQ Vg λK E=>?_;refine ev ?_;refine⟨by unfold B6;unfold lim at*;omega,?_⟩;(apply E;try simp only[Aa,]);exact⟨(j+1,x.type.structs p r),⟨by simp only;omega,C8.structs x.type hr,I⟩,by simp only;omega,by simp[sle,B0,Ae],(by simp[ble,A9,Ah])⟩
 refine sK λK2 u2=>?_;refine sQ Vg λK E=>?_;refine ev ?_;refine⟨by omega,Am d,E6 L,rfl,?_⟩;refine Bb V ?_;apply E;refine dA rfl (lA ?_);simp only[Aa,Af,Av];rw[Jk (by omega),Tw]at I;exact a1 _ _ (by simp[sle,B0,Ae,I])
mutual
theorem Of{p:Prog}{x:A3}:∀(t:Ty) {l:List A3},x∈l->x∈t.structs p l
 |.mk n a q,l,h=>by simp only[Ty.structs];split;exact pk a (CT.2 (.inr h));exact h
theorem pk{p:Prog}{x:A3}:∀(E:List Ty) {l:List A3},x∈l->x∈Ty.Ps p E l
 |[],_,h=>h
 |t::E,_,h=>pk E (Of t h)
end
def pd{p:Prog}{x:A3} :∀(fs:List Param) {l:List A3},x∈l->x∈Tw p fs l
 |[],_,h=>h
 |t::E,_,h=>pd E (Of t.type h)
def YO{p:Prog}{x nm:A3}{l:List A3}(h:x∈l):x∈M7 p nm l:=by unfold M7;split;split;exact pd _ h;exact h;exact h
def LR{p:Prog}{l:List A3}(nm:A3)(h:C8 p l):l.length<=(M7 p nm l).length:=HK h.nodup λ_=>YO
def Pe(p:Prog):List Nat->List A3->List A3
 |[],r=>r
 |i::is,r=>Pe p is (M7 p (r[i]?.getD []) r)
def Zg(p:Prog):Nat->Int->List A3->List A3
 |0,_,r=>r
 |k+1,n,r=>if n=r.length then r else Zg p k r.length (Pe p (List.range' 0 r.length) r)
def N9(p:Prog)(nm:A3):List A3:=Zg p 100003 (-1) (M7 p nm [])
def C8.round{p:Prog} :∀(is:List Nat) {l:List A3},C8 p l->C8 p (Pe p is l)
 |[],_,h=>h
 |_::is,_,h=>C8.round is (h.cont _)
def ZU{p:Prog}{x:A3} :∀(is:List Nat) {l:List A3},x∈l->x∈Pe p is l
 |[],_,h=>h
 |_::is,_,h=>ZU is (YO h)
def CV{p:Prog}{l:List A3}(is:List Nat)(h:C8 p l):l.length<=(Pe p is l).length:=HK h.nodup λ_=>ZU is
abbrev Wr:=[0,1,2,4,5,6,7,14,19]
def G8g(p:Prog)(hp:p.decls.length<=100000)(nm:A3):Ab prog 188 [Cs p,Bo nm] (Cm (N9 p nm)):=by
 refine Ci.bd (Enters.of func188 rfl (by decide)) λa6=>?_;refine cB func188 ?_;refine sR Wr ?_;refine sC (HX p hp nm [] (C8.nil p)) Wr<|sK λK1 u1=>?_;have a1:∀sl bx,sle sl [(5,Cm (N9 p nm))]->K1 sl bx:=by intro sl bx h1;refine u1 _ _ (A0.ww (bx':=[]) h1 trivial ?_);refine sR Wr ?_;exact aR
 refine sR Wr ?_;refine bA (A0.loop (X:=Nat × Int × List A3) (λx=>[(5,Cm x.2.2),(6,A6 x.2.1),(2,.box 2 0)]) (λ_=>[(2,.cells ((Ah p).map .d))]) (λx=>-1<=x.2.1/\x.2.1<=x.2.2.length/\C8 p x.2.2/\100001 - x.2.1<=x.1/\Zg p x.1 x.2.1 x.2.2=N9 p nm) (λx=>(100001 - x.2.1).toNat) (100003,-1,M7 p nm []) ?_ ?_ ?_ ?_);exact⟨by simp,by simp only;omega,(C8.nil p).cont nm,by simp,rfl⟩;exact sS;exact(by simp[ble,A9,Ah]);rintro⟨k,n,r⟩ ⟨a2,a3,hr,hk,I⟩;simp only at a2 a3 hr hk I;have a5:=hr.len;obtain⟨k,rfl⟩:∃k',k=k'+1:=⟨k - 1,by omega⟩;rw[Zg]at I;by_cases J:n=(r.length:Int);rw[A7 J]at I;refine Ag J Wr λV u2=>?_;refine dA (by simp[Aq,Ae]) (lA ?_);simp only[Aa,Af,Av];exact a1 _ _ (by simp[sle,B0,Ae,I])
 .rw[A5 J]at I;refine Ag J Wr λV u2=>?_;refine eA (by simp[Aq,Ae]) (cA (u2 _ _ ?_));refine bA<|sR Wr ?_;refine sR Wr ?_;have a4:=hr.round (List.range' 0 r.length);have a7:=CV (List.range' 0 r.length) hr;refine bA (A0.loop (X:=Nat × List A3) (λx=>[(5,Cm x.2),(6,A6 r.length),(7,A6 x.1),(2,.box 2 0)]) (λ_=>[(2,.cells ((Ah p).map .d))]) (λx=>x.1<=r.length/\r.length<=x.2.length/\C8 p x.2/\Pe p (List.range' x.1 (r.length - x.1)) x.2=Pe p (List.range' 0 r.length) r) (λx=>r.length - x.1) (0,r) ?_ ?_ ?_ ?_)
  exact⟨by simp,by simp,hr,rfl⟩;exact sS;exact(by simp[ble,A9,Ah]);rintro⟨j,W⟩ ⟨hj,a0,L,E⟩;simp only at hj a0 L E;by_cases O:(j:Int)<(r.length:Int)
  .have U:j<W.length:=by omega
   have hx:W[j]?=some W[j]:=Bu U;obtain⟨m,hm⟩:∃m,r.length - j=m+1:=⟨r.length - j - 1,by omega⟩;rw[hm,xW,Pe,hx,Dx]at E;generalize W[j]=x at*;refine Ag O Wr λV u2=>?_;refine eA rfl (cA (u2 _ _ ?_));refine sK λV u2=>bA ?_;refine lG Wr [] 6 [] λK Z=>?_;refine ev ?_;refine⟨by omega,_,Jj hx,rfl,?_⟩;refine ev ?_;refine⟨Cm (M7 p x W),.inl ⟨_,rfl,HX p hp x W L,rfl⟩,?_⟩;refine ev ?_;(apply Z;try simp only[Aa,Af]);apply u2;refine lQ Wr λK Z=>?_;refine ev ?_;refine⟨by unfold B6;omega,?_⟩;(apply Z;try simp only[Aa,]);have hc:=LR x L;exact⟨(j+1,M7 p x W),⟨by simp only;omega,by simp only;omega,L.cont x,by simp only;rw[show r.length - (j+1)=m by omega];exact E⟩,by simp only;omega,by simp[sle,B0,Ae],(by simp[ble,A9,Ah])⟩
  refine Ag O Wr λV u2=>?_;refine dA rfl (lA ?_);simp only[Aa,Af,Av];rw[show r.length - j=0 by omega]at E;simp only[List.range'_zero,Pe]at E;subst E;exact⟨(k,r.length,Pe p (List.range' 0 r.length) r),⟨by simp only;omega,by simp only;omega,a4,by simp only;omega,I⟩,by simp only;omega,by simp[sle,B0,Ae],(by simp[ble,A9,Ah])⟩
def Du(s:A3):List A3->Nat->Int
 |[],_=>-1
 |x::xs,i=>if s=x then i else Du s xs (i+1)
theorem NF(s:A3):∀(l:List A3)(i:Nat),(Du s l i = -1/\s∉l)\/∃k,l[k]?=some s/\Du s l i=((i+k:Nat):Int)
 |[],i=>by simp[Du]
 |d::ds,i=>by simp only[Du];split;rename_i h;subst h;exact .inr ⟨0,rfl,rfl⟩;rename_i h;rcases NF s ds (i+1)with⟨E,I⟩|⟨k,E,I⟩;exact .inl ⟨E,by simp[h,I]⟩;exact .inr ⟨k+1,by simpa using E,by rw[I];congr 1;omega⟩
abbrev Za:=[0,1,4,5,7,8,9,16]
def G3q(l:List A3)(s:A3):Ab prog 267 [Cm l,Bo s] (A6 (Du s l 0)):=by
 refine Ci.bd (Enters.of func267 rfl (by decide)) λW=>?_;have hl:=(FE W.1).1;refine cB func267 ?_;refine sR Za<|sK λZ u1=>?_;have V:∀sl bx,Du s l 0 = -1->Z sl bx:=by intro sl bx h1;refine u1 _ _ (A0.ww (sl':=[]) (bx':=[]) trivial trivial ?_);refine sR Za ?_;rw[h1];exact aR
 refine sR Za ?_;refine bA (A0.loop (X:=Nat) (λx=>[(8,A6 x),(7,A6 l.length),(0,Cm l),(1,Bo s)]) (λ_=>[]) (λx=>x<=l.length/\Du s (l.drop x) x=Du s l 0) (λx=>l.length - x) 0 ?_ ?_ ?_ ?_);exact⟨by simp,by simp⟩;exact sS;exact sB;rintro j ⟨hj,E⟩;by_cases L:(j:Int)<(l.length:Int)
 .have J:j<l.length:=by omega
  have hy:l[j]?=some l[j]:=Bu J;have dp:l.drop j=l[j]::l.drop (j+1):=H7 J;generalize l[j]=y at*;rw[dp,Du]at E;refine Ak L Za ?_;refine sK λO u2=>eA rfl (cA (u2 _ _ ?_));refine sK λO u2=>bA<|sR Za ?_;by_cases U:s=y
  rw[A7 U]at E;refine sQ Za λK I=>?_;refine Bb U ?_;refine⟨by omega,_,Jj hy,rfl,?_⟩;refine ev ?_;apply I;refine eA rfl<|sR Za ?_;rw[<-E];exact aR
  rw[A5 U]at E;refine sQ Za λK I=>?_;refine ev ?_;refine⟨by omega,_,Jj hy,rfl,?_⟩;refine Bb U ?_;apply I;refine dA rfl (cA ?_);simp only[Aa,Af];apply u2;refine lQ Za λK I=>?_;refine ev ?_;refine⟨by unfold B6;unfold lim at*;omega,?_⟩;(apply I;try simp only[Aa,]);exact⟨j+1,⟨by omega,E⟩,by omega,by simp[sle,B0,Ae],sB⟩
 refine Ak L Za ?_;refine sK λO u2=>dA rfl (lA ?_);simp only[Aa,Af,Av];rw[Jk (by omega)]at E;exact V _ _ E.symm
def sm:Nat:=1000000
inductive Ty.Sm:Ty->Prop where
 |mk (n:A3) (a:List Ty) (p:Int):n.length<=60000000*sm->a.length<=sm->(∀t,t∈a->Ty.Sm t)->Ty.Sm (.mk n a p)
variable {t:Ty}
theorem Ty.Sm.name(h:t.Sm):t.name.length<=60000000*sm:=by cases h;assumption
def Ty.Sm.len(h:t.Sm):t.args.length<=sm:=by cases h;assumption
def Ty.Sm.arg(h:t.Sm):∀u,u∈t.args->u.Sm:=by cases h;assumption
abbrev GC:=[0,1,2,6,7,9,10,11,12,13]
def WZ(g:Ty->Ty)(vars:List A3)(args:List Ty)(l:List Ty)(hl:l.length<=sm)(hs:∀t,t∈l->Ab prog 175 [Ba t,Cm vars,Cv args] (Ba (g t))) :Ab prog 268 [Cv l,Cm vars,Cv args] (Cv (l.map g)):=by
 refine cB func268 ?_;refine sR GC ?_;refine sR GC ?_;refine A0.pp 7 3 7 rfl<|sK λV u1=>?_;have U:∀sl bx,sle sl [(7,.acc 7)]->ble bx [(7,.rows 3 (Au (l.map g)))]->V sl bx:=by intro sl bx h1 W;refine u1 _ _ (A0.ww h1 W ?_);refine sR GC ?_;exact aR
 refine sR GC ?_;refine bA (A0.loop (X:=Nat) (λx=>[(12,A6 x),(11,A6 l.length),(10,Cv l),(1,Cm vars),(2,Cv args),(7,.acc 7)]) (λx=>[(7,.rows 3 (Au ((l.take x).map g)))]) (λx=>x<=l.length) (λx=>l.length - x) 0 ?_ ?_ ?_ ?_);simp;exact sS;simp[ble,A9,Ox];rintro j hj;by_cases J:(j:Int)<(l.length:Int)
 .have E:j<l.length:=by omega
  have Z:l[j]?=some l[j]:=Bu E;have L:l[j]∈l:=Gc E;have tk:l.take (j+1)=l.take j++[l[j]]:=Kj E;generalize l[j]=y at*;refine Ak J GC ?_;refine sK λO u2=>eA rfl (cA (u2 _ _ ?_));refine sK λO u2=>bA ?_;refine sQ GC λK I=>?_;refine ev ?_;refine⟨by omega,Bf y,Fs Z,rfl,?_⟩;refine ev ?_;apply I;refine lQ GC λK I=>?_;refine ev ?_;refine⟨Ba (g y),.inl ⟨_,rfl,hs y L,rfl⟩,?_⟩;refine ev ?_;refine⟨by simp,by rw[B7,Dh];unfold lim sm at*;omega,?_⟩;(apply I;try simp only[Aa,Af]);apply u2;refine lQ GC λK I=>?_;refine ev ?_;refine⟨by unfold B6;unfold sm at*;omega,?_⟩;(apply I;try simp only[Aa,]);refine⟨j+1,by omega,by omega,by simp[sle,B0,Ae],?_⟩;rw[tk];simp[ble,A9,Cq,Bf]
 refine Ak J GC ?_;refine sK λO u2=>dA rfl (lA ?_);simp only[Aa,Af,Av];rw[UC (by omega)];exact U _ _ sS sB
mutual
def Ty.subst(vars:List A3)(args:List Ty):Ty->Ty
 |.mk n a p=>if a.length=0/\0<=Du n vars 0/\Du n vars 0<args.length then .mk (args[(Du n vars 0).toNat]?.getD default).name (args[(Du n vars 0).toNat]?.getD default).args p else .mk n (dB vars args a) p
def dB(vars:List A3)(args:List Ty):List Ty->List Ty
 |[]=>[]
 |t::E=>t.subst vars args::dB vars args E
end
def tX(vars:List A3)(args:List Ty):∀l,dB vars args l=l.map (Ty.subst vars args)
 |[]=>by rw[dB];rfl
 |t::E=>by rw[dB,tX vars args E];rfl
def W1(vars:List A3)(args:List Ty)(t:Ty):t.subst vars args=if t.args.length=0/\0<=Du t.name vars 0/\Du t.name vars 0<args.length then .mk (args[(Du t.name vars 0).toNat]?.getD default).name (args[(Du t.name vars 0).toNat]?.getD default).args t.pos else .mk t.name (t.args.map (Ty.subst vars args)) t.pos:=by
 cases t with
 |mk n a p=>rw[Ty.subst,tX];rfl
def Rn:∀t:Ty,t.subst [] []=t:=by
 intro t
 induction t using Ty.induct with
 |h t E =>
 rw[W1,A5 (by simp[Du]),Hb E];cases t;simp[Ty.name,Ty.args,Ty.pos]
abbrev Y8:=[0,1,2,3,6,7,8,26]
def cb(vars:List A3)(args:List Ty)(hC:∀(i:Nat)(u:Ty),args[i]?=some u->Ab prog 94 [Ba u] (Ba u)):∀t:Ty,t.Sm->Ab prog 175 [Ba t,Cm vars,Cv args] (Ba (t.subst vars args)):=by
 intro t
 induction t using Ty.induct with
 |h t ih =>
 intro O;refine Ci.bd (Enters.of func175 rfl (by decide)) λU=>?_;have hv:=(FE U.2.1).1;have ha:=(OH U.2.2.1).1;have E:=W1 vars args t;have V:=WZ (Ty.subst vars args) vars args t.args O.len (λu hu=>ih u hu (O.arg u hu));refine cB func175 ?_;refine sR Y8 ?_;refine kC (G3q vars t.name) Y8 λK1 u1=>?_;generalize Du t.name vars 0=i at*;have J:(t.args.length=0/\0<=i/\i<args.length)=False->∀sl bx,sle sl [(1,Cm vars),(2,Cv args),(3,.box 3 0),(6,.box 6 0)]->ble bx [(3,.cells ((Bf t).map .d)),(6,.cells [.d (.str []),.d .nil,.d (.int .i64 0)])]->K1 sl bx:=by intro hc sl bx L I;refine u1 _ _ (A0.ww L I ?_);rw[A5 (by rw[hc];exact id)]at E;refine sC V Y8 ?_;refine sR Y8 ?_;rw[E];exact aR
 by_cases L:(t.args.length:Int)=0
 .by_cases I:0<=i
  .by_cases W:i<(args.length:Int)
   .rw[A7 ⟨by omega,I,W⟩]at E;have Z:args[i.toNat]?=some args[i.toNat]:=Bu (by omega);rw[Z,Dx]at E;generalize args[i.toNat]=u at*;refine sR3 L I W Y8 ?_;refine eA rfl ?_
    (refine sQ Y8 λK hK=>?_;refine ev ?_)
    refine⟨I,Bf u,Fs Z,rfl,?_⟩;refine ev ?_;refine⟨Ba u,.inl ⟨_,rfl,hC _ u Z,rfl⟩,?_⟩;refine ev ?_
    (apply hK)
    refine sR Y8 ?_;refine sR Y8 ?_;rw[E];exact aR
   .refine sR3 L I W Y8 ?_;refine dA rfl (cA ?_);exact J (by simp[W]) _ _ sS (by simp[ble,A9,Bf,])
  .refine Ee L I Y8 ?_;refine dA rfl (cA ?_);exact J (by simp[I]) _ _ sS (by simp[ble,A9,Bf,])
 .refine Ak L Y8 ?_;refine dA rfl (cA ?_);exact J (by simp only[eq_iff_iff,iff_false];omega) _ _ sS (by simp[ble,A9,Bf,])
def IF(t:Ty)(h:t.Sm):Ab prog 94 [Ba t] (Ba t):=by refine cB func94 ?_;refine sR [0,1,2] ?_;refine sQ [0,1,2] λK E=>?_;simp -implicitDefEqProofs only[EV,D8,Nat.reduceAdd,Nat.reduceEqDiff,reduceCtorEq];have hs:=cb [] [] (by simp) t h;rw[Rn]at hs;refine⟨Ba t,.inl ⟨_,rfl,hs,rfl⟩,?_⟩;refine ev ?_;apply E;exact aR
def OP(vars:List A3)(args:List Ty)(E:∀u,u∈args->u.Sm)(t:Ty)(h:t.Sm):Ab prog 175 [Ba t,Cm vars,Cv args] (Ba (t.subst vars args)) :=cb vars args (λi u I=>IF u (E u (Re.2 ⟨i,I⟩))) t h
inductive Ex.Sm:Ex->Prop where
 |mk (k:Int) (n:A3) (t:Ty) (a:List Ty) (ks:List Ex) (p:Int):n.length<=60000000*sm->t.Sm->a.length<=sm->(∀t,t∈a->t.Sm)->ks.length<=sm->(∀e,e∈ks->Ex.Sm e)->Ex.Sm (.mk k n t a ks p)
variable {e:Ex}
theorem Ex.Sm.name(h:e.Sm):e.name.length<=60000000*sm:=by cases h;assumption
def Ex.Sm.type(h:e.Sm):e.type.Sm:=by cases h;assumption
def Ex.Sm.targs(h:e.Sm):e.targs.length<=sm/\∀t,t∈e.targs->t.Sm:=by cases h;exact⟨by assumption,by assumption⟩
def Ex.Sm.kids(h:e.Sm):e.kids.length<=sm/\∀t,t∈e.kids->t.Sm:=by cases h;exact⟨by assumption,by assumption⟩
def Ex.PE(vars:List A3)(args:List Ty)(e:Ex):Ex:=.mk e.kind e.name (e.type.subst vars args) (e.targs.map (Ty.subst vars args)) e.kids e.pos
def G6i(vars:List A3)(args:List Ty)(I:∀u,u∈args->u.Sm)(e:Ex)(ht:e.type.Sm)(L:e.targs.length<=sm)(E:∀t,t∈e.targs->t.Sm) :Ab prog 304 [D6 e,.A8 [.slice (Bq vars)] 0,.A8 [.slice (Au args)] 0] (D6 (e.PE vars args)):=by refine cB func304 ?_;refine sR [0,1,2,3,4] ?_;refine sG [0,1,2,3,4] [] 11 [] λK J=>?_;refine ev ?_;refine⟨Ba (e.type.subst vars args),.inl ⟨_,rfl,OP vars args I e.type ht,rfl⟩,?_⟩;refine ev ?_;refine⟨Cv (e.targs.map (Ty.subst vars args)),.inl ⟨_,rfl,WZ (Ty.subst vars args) vars args e.targs L (λt h=>OP vars args I t (E t h)),rfl⟩,?_⟩;refine ev ?_;apply J;refine sR [0,1,2,3,4] ?_;exact aR
mutual
theorem jG(k:Nat)(f:Qq):∀{x:SV},x.closed=true->x.sub k f=x
 |.undef,_=>rfl
 |.d _,_=>rfl
 |.A8 _ _,_=>rfl
 |.agg cs,h=>by simp only[SV.closed]at h;simp only[SV.sub,XA k f h]
 |.tuple cs,h=>by simp only[SV.closed]at h;simp only[SV.sub,XA k f h]
 |.Bi _ cs,h=>by simp only[SV.closed]at h;simp only[SV.sub,XA k f h]
 |.Fy cs _,h=>by simp only[SV.closed]at h;simp only[SV.sub,XA k f h]
 |.box _ _,h=>by simp[SV.closed]at h
 |.acc _,h=>by simp[SV.closed]at h
 |.Fa _ _ _,h=>by simp[SV.closed]at h
 |.mp _,h=>by simp[SV.closed]at h
 |.Fg _,h=>rfl
theorem XA(k:Nat)(f:Qq):∀{xs:List SV},SV.Ng xs=true->nA k f xs=xs
 |[],_=>rfl
 |c::cs,h=>by simp only[SV.Ng,Bh]at h;simp only[nA,jG k f h.1,XA k f h.2]
end
def Ex.Xy(e:Ex)(ks:List Ex):Ex:=.mk e.kind e.name e.type e.targs ks e.pos
mutual
def Ex.mapped(g:Ex->Ex):Ex->Ex
 |.mk k n t a ks p=>g (.mk k n t a (iB g ks) p)
def iB(g:Ex->Ex):List Ex->List Ex
 |[]=>[]
 |e::es=>e.mapped g::iB g es
end
def ep(g:Ex->Ex):∀l,iB g l=l.map (Ex.mapped g)
 |[]=>by rw[iB];rfl
 |t::E=>by rw[iB,ep g E];rfl
def AE(g:Ex->Ex)(e:Ex):e.mapped g=g (e.Xy (e.kids.map (Ex.mapped g))):=by
 cases e with
 |mk k n t a ks p=>rw[Ex.mapped,ep];rfl
abbrev YB:=[0,1,2,4,5,7,9,10,11,12]
def G9a(f:FuncId)(caps:List SV)(O:Gz [] caps=some caps)(V:SV.Ng caps=true)(g:Ex->Ex)
  (hg:∀(e:Ex) (ks:List Ex),e.Sm->Ab prog f (D6 (e.Xy ks)::caps) (D6 (g (e.Xy ks)))) :
  ∀e:Ex,e.Sm->Ab prog 303 [D6 e,.Bi f caps] (D6 (e.mapped g)):=by
 intro e
 induction e using Ex.induct with
 |h e ih =>
 intro L;have W:=AE g e;have hl:=L.kids.1;have hh:∀k,SV.Mh k caps=false:=λk=>WA k V;have a1:(false=true)=False:=by simp
 rw[W];refine cB func303 ?_;refine Ak hh YB ?_;refine sR YB ?_;refine A0.pp 5 8 5 rfl ?_;simp only[Y9,Nr,SV.has,hh,Iu,Gi];refine sK λK1 u1=>?_;have a0:∀sl bx,sle sl [(1,.Bi f caps),(2,.box 2 0),(4,.box 4 0),(5,.acc 5)] ->ble bx [(5,.rows 8 (Ed (e.kids.map (Ex.mapped g)))),(2,.cells ((Ce e).map .d)),(4,.cells [.d (.int .i64 0),.d (.str []),.d (.str []),.d .nil,.d (.int .i64 0),.d .nil,.d .nil,.d (.int .i64 0)])]->K1 sl bx:=by
  intro sl bx h1 h2;refine u1 _ _ (A0.ww h1 h2 ?_);refine A0.Km 5 rfl<|A0.ww (sl':=[(1,.Bi f caps),(2,.box 2 0),(4,.box 4 0),(5,.d (.slice (Ed (e.kids.map (Ex.mapped g)))))]) (bx':=[(2,.cells ((Ce e).map .d)),(4,.cells [.d (.int .i64 0),.d (.str []),.d (.str []),.d .nil,.d (.int .i64 0),.d .nil,.d .nil,.d (.int .i64 0)])]) (by simp[Ms,SV.sub,sle,B0,Ae,XA _ _ V]) (by simp[Kz,Ax.sub,nA,SV.sub,ble,A9,Cu,Ce]) ?_
  refine sR YB ?_
  (refine sQ YB λK E=>?_;refine Bb O ?_)
  refine⟨D6 (g (e.Xy (e.kids.map (Ex.mapped g)))),.inl ⟨_,rfl,hg e _ L,rfl⟩,?_⟩;refine ev ?_
  (apply E)
  exact aR
 refine sR YB ?_;refine bA (A0.loop (X:=Nat) (λx=>[(11,A6 x),(10,A6 e.kids.length),(9,.d (.slice (Ed e.kids))),(1,.Bi f caps),(2,.box 2 0),(4,.box 4 0),(5,.acc 5)]) (λx=>[(5,.rows 8 (Ed ((e.kids.take x).map (Ex.mapped g)))),(2,.cells ((Ce e).map .d)),(4,.cells [.d (.int .i64 0),.d (.str []),.d (.str []),.d .nil,.d (.int .i64 0),.d .nil,.d .nil,.d (.int .i64 0)])]) (λx=>x<=e.kids.length) (λx=>e.kids.length - x) 0 ?_ ?_ ?_ ?_)
 .simp
 .exact sS
 .simp[ble,A9,G5u,Ce]
 rintro j hj;by_cases U:(j:Int)<(e.kids.length:Int)
 .have I:j<e.kids.length:=by omega
  have hy:e.kids[j]?=some e.kids[j]:=Bu I;have J:e.kids[j]∈e.kids:=Gc I;have tk:e.kids.take (j+1)=e.kids.take j++[e.kids[j]]:=Kj I;generalize e.kids[j]=y at*;refine Ak U YB ?_;refine sK λZ u2=>eA rfl (cA (u2 _ _ ?_));refine sK λZ u2=>bA ?_
  (refine sQ YB λK E=>?_;refine ev ?_)
  refine⟨by omega,Ce y,Ey hy,rfl,?_⟩;refine Bb hh ?_
  (apply E)
  (refine lQ YB λK E=>?_;refine G1 O hh ?_)
  refine⟨D6 (y.mapped g),.inl ⟨_,rfl,ih y J (L.kids.2 y J),rfl⟩,?_⟩;refine ev ?_;refine⟨by simp,by rw[B7,Dh];unfold lim sm at*;omega,?_⟩
  (apply E;try simp only[Aa,Af])
  apply u2
  (refine lQ YB λK E=>?_;refine ev ?_)
  refine⟨by unfold B6;unfold sm at*;omega,?_⟩
  (apply E;try simp only[Aa,])
  refine⟨j+1,by omega,by omega,by simp[sle,B0,Ae],?_⟩;rw[tk];simp[ble,A9,P8,Ce]
 .refine Ak U YB ?_;refine sK λZ u2=>dA rfl (lA ?_);simp only[Aa,Af,Av];rw[UC (by omega)];exact a0 _ _ sS (by simp[ble,A9,Ce,])
def Ex.subst(vars:List A3)(args:List Ty):Ex->Ex:=Ex.mapped (Ex.PE vars args)
def H6r(vars:List A3)(args:List Ty)(E:∀u,u∈args->u.Sm)(e:Ex)(J:e.Sm):Ab prog 262 [D6 e,Cm vars,Cv args] (D6 (e.subst vars args)):=by
 have I:=G9a 304 [.A8 [.slice (Bq vars)] 0,.A8 [.slice (Au args)] 0] rfl rfl (Ex.PE vars args)
  (λe ks h=>G6i vars args E (e.Xy ks) h.type h.targs.1 h.targs.2) e J
 refine cB func262 ?_;refine sR [0,1,2,3,4,5,6] ?_;refine gA 4 rfl rfl<|gA 5 rfl rfl<|A0.ww (sl':=[(3,.box 3 0),(4,.A8 [.slice (Bq vars)] 0),(5,.A8 [.slice (Au args)] 0),(6,.box 6 0)]) (bx':=[(3,.cells ((Ce e).map .d)),(6,.cells [.d (.int .i64 0),.d (.str []),.d (.str []),.d .nil,.d (.int .i64 0),.d .nil,.d .nil,.d (.int .i64 0)])]) (by simp[Ms,SV.sub,nA,sle,B0,Ae]) (by simp[Kz,Ax.sub,nA,SV.sub,ble,A9,Cu,Ce]) ?_
 refine sC I [0,1,2,3,4,5,6] ?_;exact aR
def fz:∀e:Ex,e.subst [] []=e:=by
 intro e
 induction e using Ex.induct with
 |h e E =>
 have J:e.kids.map (Ex.mapped (Ex.PE [] []))=e.kids:=by have:=Hb (f:=Ex.mapped (Ex.PE [] [])) (g:=id) E;rw[this];simp
 have I:∀l:List Ty,l.map (Ty.subst [] [])=l:=λl=>by rw[Hb (g:=id) λt _=>Rn t];simp
 show Ex.mapped (Ex.PE [] []) e=e;rw[AE,J];cases e;simp[Ex.PE,Ex.Xy,Ex.kind,Ex.name,Ex.type,Ex.targs,Ex.kids,Ex.pos,Rn,I]
def JZ(e:Ex)(h:e.Sm):Ab prog 171 [D6 e] (D6 e):=by refine cB func171 ?_;refine sR [0,1,2] ?_;refine sQ [0,1,2] λK E=>?_;simp -implicitDefEqProofs only[EV,D8,Nat.reduceAdd,Nat.reduceEqDiff,reduceCtorEq];have hs:=H6r [] [] (by simp) e h;rw[fz]at hs;refine⟨D6 e,.inl ⟨_,rfl,hs,rfl⟩,?_⟩;refine ev ?_;apply E;exact aR
structure Aj.Sm(f:Aj):Prop where
 name:f.name.length<=60000000*sm
 bound:f.bound.Sm
structure Param.Sm(f:Param):Prop where
 name:f.name.length<=60000000*sm
 type:f.type.Sm
structure A4.Sm(s:A4):Prop where
 name:s.name.length<=60000000*sm
 A1:s.A1.length<=sm/\∀t,t∈s.A1->t.Sm
 params:s.params.length<=sm/\∀t,t∈s.params->t.Sm
 result:s.result.Sm
structure Decl.Sm(d:Decl):Prop where
 name:d.name.length<=60000000*sm
 A1:d.A1.length<=sm/\∀t,t∈d.A1->t.Sm
 fields:d.fields.length<=sm/\∀t,t∈d.fields->t.Sm
 sigs:d.sigs.length<=sm/\∀t,t∈d.sigs->t.Sm
 recv:d.recv.length<=60000000*sm
 vars:d.vars.length<=sm/\∀t,t∈d.vars->t.length<=60000000*sm
 sig:d.sig.Sm
 body:d.body.Sm
structure Prog.Sm(p:Prog):Prop where
 decls:p.decls.length<=sm/\∀t,t∈p.decls->t.Sm
 main:p.main.Sm
def Ol(x:Aj)(h:x.Sm):Ab prog 256 [Th x] (Th x):=by refine cB func256 ?_;refine sR [0,1,2] ?_;refine sC (IF x.bound h.bound) [0,1,2] ?_;refine sR [0,1,2] ?_;exact aR
def Vl(x:Param)(h:x.Sm):Ab prog 258 [Ma x] (Ma x):=by refine cB func258 ?_;refine sR [0,1,2] ?_;refine sC (IF x.type h.type) [0,1,2] ?_;refine sR [0,1,2] ?_;exact aR
abbrev CC:=[0,1,4,5,7,8,9,10,11]
def pq(f:FuncId)(l:List Aj)(hl:l.length<=sm)(hs:∀t,t∈l->Ab prog f [Th t] (Th t)) :Ab prog 255 [.d (.slice (Ai l)),.Bi f []] (.d (.slice (Ai l))):=by
 refine cB func255 ?_;refine sR CC ?_;refine sR CC ?_;refine A0.pp 5 5 5 rfl<|sK λV u1=>?_;have U:∀sl bx,sle sl [(5,.acc 5)]->ble bx [(5,.rows 5 (Ai l))]->V sl bx:=by intro sl bx h1 W;refine u1 _ _ (A0.ww h1 W ?_);refine sR CC ?_;exact aR
 refine sR CC ?_;refine bA (A0.loop (X:=Nat) (λx=>[(10,A6 x),(9,A6 l.length),(8,.d (.slice (Ai l))),(1,.Bi f []),(5,.acc 5)]) (λx=>[(5,.rows 5 (Ai (l.take x)))]) (λx=>x<=l.length) (λx=>l.length - x) 0 ?_ ?_ ?_ ?_);simp;exact sS;simp[ble,A9,Ai];rintro j hj;by_cases J:(j:Int)<(l.length:Int)
 .have E:j<l.length:=by omega
  have Z:l[j]?=some l[j]:=Bu E;have L:l[j]∈l:=Gc E;have tk:l.take (j+1)=l.take j++[l[j]]:=Kj E;generalize l[j]=y at*;refine Ak J CC ?_;refine sK λO u2=>eA rfl (cA (u2 _ _ ?_));refine sK λO u2=>bA ?_;refine sQ CC λK I=>?_;refine ev ?_;refine⟨by omega,Iz y,Fm Z,rfl,?_⟩;refine ev ?_;apply I;refine lQ CC λK I=>?_;refine ev ?_;refine⟨Th y,.inl ⟨_,rfl,hs y L,rfl⟩,?_⟩;refine ev ?_;refine⟨by simp,by rw[Dh];unfold lim sm at*;omega,?_⟩;(apply I;try simp only[Aa,Af]);apply u2;refine lQ CC λK I=>?_;refine ev ?_;refine⟨by unfold B6;unfold sm at*;omega,?_⟩;(apply I;try simp only[Aa,]);refine⟨j+1,by omega,by omega,by simp[sle,B0,Ae],?_⟩;rw[tk];simp[ble,A9,Ai,Iz]
 refine Ak J CC ?_;refine sK λO u2=>dA rfl (lA ?_);simp only[Aa,Af,Av];rw[UC (by omega)];exact U _ _ sS sB
abbrev BC:=[0,1,4,5,7,8,9,10,11]
def dY(f:FuncId)(l:List Param)(hl:l.length<=sm)(hs:∀t,t∈l->Ab prog f [Ma t] (Ma t)) :Ab prog 257 [.d (.slice (Aw l)),.Bi f []] (.d (.slice (Aw l))):=by
 refine cB func257 ?_;refine sR BC ?_;refine sR BC ?_;refine A0.pp 5 5 5 rfl<|sK λV u1=>?_;have U:∀sl bx,sle sl [(5,.acc 5)]->ble bx [(5,.rows 5 (Aw l))]->V sl bx:=by intro sl bx h1 W;refine u1 _ _ (A0.ww h1 W ?_);refine sR BC ?_;exact aR
 refine sR BC ?_;refine bA (A0.loop (X:=Nat) (λx=>[(10,A6 x),(9,A6 l.length),(8,.d (.slice (Aw l))),(1,.Bi f []),(5,.acc 5)]) (λx=>[(5,.rows 5 (Aw (l.take x)))]) (λx=>x<=l.length) (λx=>l.length - x) 0 ?_ ?_ ?_ ?_);simp;exact sS;simp[ble,A9,Aw];rintro j hj;by_cases J:(j:Int)<(l.length:Int)
 .have E:j<l.length:=by omega
  have Z:l[j]?=some l[j]:=Bu E;have L:l[j]∈l:=Gc E;have tk:l.take (j+1)=l.take j++[l[j]]:=Kj E;generalize l[j]=y at*;refine Ak J BC ?_;refine sK λO u2=>eA rfl (cA (u2 _ _ ?_));refine sK λO u2=>bA ?_;refine sQ BC λK I=>?_;refine ev ?_;refine⟨by omega,G9 y,Dt Z,rfl,?_⟩;refine ev ?_;apply I;refine lQ BC λK I=>?_;refine ev ?_;refine⟨Ma y,.inl ⟨_,rfl,hs y L,rfl⟩,?_⟩;refine ev ?_;refine⟨by simp,by rw[Dh];unfold lim sm at*;omega,?_⟩;(apply I;try simp only[Aa,Af]);apply u2;refine lQ BC λK I=>?_;refine ev ?_;refine⟨by unfold B6;unfold sm at*;omega,?_⟩;(apply I;try simp only[Aa,]);refine⟨j+1,by omega,by omega,by simp[sle,B0,Ae],?_⟩;rw[tk];simp[ble,A9,Aw,G9]
 refine Ak J BC ?_;refine sK λO u2=>dA rfl (lA ?_);simp only[Aa,Af,Av];rw[UC (by omega)];exact U _ _ sS sB
abbrev sD:=[0,1,4,5,7,8,9,10,11]
def bw(f:FuncId)(l:List A4)(hl:l.length<=sm)(hs:∀t,t∈l->Ab prog f [Db t] (Db t)) :Ab prog 259 [.d (.slice (B4 l)),.Bi f []] (.d (.slice (B4 l))):=by
 refine cB func259 ?_;refine sR sD ?_;refine sR sD ?_;refine A0.pp 5 7 5 rfl<|sK λV u1=>?_;have U:∀sl bx,sle sl [(5,.acc 5)]->ble bx [(5,.rows 7 (B4 l))]->V sl bx:=by intro sl bx h1 W;refine u1 _ _ (A0.ww h1 W ?_);refine sR sD ?_;exact aR
 refine sR sD ?_;refine bA (A0.loop (X:=Nat) (λx=>[(10,A6 x),(9,A6 l.length),(8,.d (.slice (B4 l))),(1,.Bi f []),(5,.acc 5)]) (λx=>[(5,.rows 7 (B4 (l.take x)))]) (λx=>x<=l.length) (λx=>l.length - x) 0 ?_ ?_ ?_ ?_);simp;exact sS;simp[ble,A9,B4];rintro j hj;by_cases J:(j:Int)<(l.length:Int)
 .have E:j<l.length:=by omega
  have Z:l[j]?=some l[j]:=Bu E;have L:l[j]∈l:=Gc E;have tk:l.take (j+1)=l.take j++[l[j]]:=Kj E;generalize l[j]=y at*;refine Ak J sD ?_;refine sK λO u2=>eA rfl (cA (u2 _ _ ?_));refine sK λO u2=>bA ?_;refine sQ sD λK I=>?_;refine ev ?_;refine⟨by omega,Dp y,Dg Z,rfl,?_⟩;refine ev ?_;apply I;refine lQ sD λK I=>?_;refine ev ?_;refine⟨Db y,.inl ⟨_,rfl,hs y L,rfl⟩,?_⟩;refine ev ?_;refine⟨by simp,by rw[Dh];unfold lim sm at*;omega,?_⟩;(apply I;try simp only[Aa,Af]);apply u2;refine lQ sD λK I=>?_;refine ev ?_;refine⟨by unfold B6;unfold sm at*;omega,?_⟩;(apply I;try simp only[Aa,]);refine⟨j+1,by omega,by omega,by simp[sle,B0,Ae],?_⟩;rw[tk];simp[ble,A9,B4,Dp]
 refine Ak J sD ?_;refine sK λO u2=>dA rfl (lA ?_);simp only[Aa,Af,Av];rw[UC (by omega)];exact U _ _ sS sB
abbrev KD:=[0,1,4,5,7,8,9,10,11]
def wy(f:FuncId)(l:List Decl)(hl:l.length<=sm)(hs:∀t,t∈l->Ab prog f [Hw t] (Hw t)) :Ab prog 169 [.d (.slice (Bx l)),.Bi f []] (.d (.slice (Bx l))):=by
 refine cB func169 ?_;refine sR KD ?_;refine sR KD ?_;refine A0.pp 5 23 5 rfl<|sK λV u1=>?_;have U:∀sl bx,sle sl [(5,.acc 5)]->ble bx [(5,.rows 23 (Bx l))]->V sl bx:=by intro sl bx h1 W;refine u1 _ _ (A0.ww h1 W ?_);refine sR KD ?_;exact aR
 refine sR KD ?_;refine bA (A0.loop (X:=Nat) (λx=>[(10,A6 x),(9,A6 l.length),(8,.d (.slice (Bx l))),(1,.Bi f []),(5,.acc 5)]) (λx=>[(5,.rows 23 (Bx (l.take x)))]) (λx=>x<=l.length) (λx=>l.length - x) 0 ?_ ?_ ?_ ?_);simp;exact sS;simp[ble,A9,Bx];rintro j hj;by_cases J:(j:Int)<(l.length:Int)
 .have E:j<l.length:=by omega
  have Z:l[j]?=some l[j]:=Bu E;have L:l[j]∈l:=Gc E;have tk:l.take (j+1)=l.take j++[l[j]]:=Kj E;generalize l[j]=y at*;refine Ak J KD ?_;refine sK λO u2=>eA rfl (cA (u2 _ _ ?_));refine sK λO u2=>bA ?_;refine sQ KD λK I=>?_;refine ev ?_;refine⟨by omega,Am y,E6 Z,rfl,?_⟩;refine ev ?_;apply I;refine lQ KD λK I=>?_;refine ev ?_;refine⟨Hw y,.inl ⟨_,rfl,hs y L,rfl⟩,?_⟩;refine ev ?_;refine⟨by simp,by rw[Dh];unfold lim sm at*;omega,?_⟩;(apply I;try simp only[Aa,Af]);apply u2;refine lQ KD λK I=>?_;refine ev ?_;refine⟨by unfold B6;unfold sm at*;omega,?_⟩;(apply I;try simp only[Aa,]);refine⟨j+1,by omega,by omega,by simp[sle,B0,Ae],?_⟩;rw[tk];simp[ble,A9,Bx,Am]
 refine Ak J KD ?_;refine sK λO u2=>dA rfl (lA ?_);simp only[Aa,Af,Av];rw[UC (by omega)];exact U _ _ sS sB
variable {bx:Ac}
def kG{ro:Option Nat}{P:Program}{c:Code}{Q:Exit->SL->Ac->Prop}{sl:SL}(t:Nat)(hd:Ae sl t=.d (.slice []))(U:A0 ro P n c Q ((t,.d .nil)::sl) bx)(J:A0 ro P n c Q ((t,.d .emp)::sl) bx):A0 ro P n c Q sl bx:=by
 intro C S w β a hs;have hr:=hs.slot t;rw[hd]at hr;have I:=hr.Js;generalize L:a.tmps.getD t undef=v at I;have go:∀x:SV,An S w β x v->St C n S w β a ((t,x)::sl) bx:=λx V=>⟨hs.inv,hs.size,hs.defers,λu=>by simp only[Ae];split;rename_i O;subst O;rw[L];exact V;exact hs.slot u⟩
 cases I with
 |Nv a cap E =>
  cases a with
  |none=>have:=E rfl;subst this;exact U C S w β _ (go _ (.d _ _ .nil))
  |some b=>exact J C S w β _ (go _ (.d _ _ (.emp b cap)))
 |slice _ b off cap sz=>exact J C S w β _ (go _ (.d _ _ (.emp _ cap)))
def H4c(l:List A3)(L:l.length<=sm):Ab prog 261 [Cm l] (Cm l):=by
 refine cB func261 ?_;refine sR [0,2,4] ?_;cases l with
 |nil =>
  refine kG 0 rfl ?_ ?_;refine kR [0,2,4] λI u1=>?_;refine eA rfl<|sR [0,2,4] ?_;exact aR
  refine kR [0,2,4] λI u1=>?_;refine dA rfl (cA (u1 _ _ ?_));refine jA [0,2,4,5] [5] (by decide +kernel) λK z=>?_;refine ev ?_;apply z;exact aR
 |cons x l =>have e:Bq (x::l)=[.str x]::Bq l:=rfl;refine sK λI u1=>?_;refine sQ [0,2,4] λK z=>?_;simp -implicitDefEqProofs only[EV,D8,Nat.reduceEqDiff,reduceCtorEq,e,Qz];apply z;refine dA rfl (cA (u1 _ _ ?_));have E:=LD (x::l);rw[e]at E;simp only[Bg]at L;refine jA [0,2,4,5] [5] (by decide +kernel) λK J=>?_;refine ev ?_;refine⟨E,by unfold lim sm at*;omega,?_⟩;apply J;rw[<-e];exact aR
def te(x:A4)(h:x.Sm):Ab prog 260 [Db x] (Db x):=by refine cB func260 ?_;refine sR [0,1,2] ?_;refine sG [0,1,2] [] 10 [] λK E=>?_;refine ev ?_;refine⟨.d (.slice (Ai x.A1)),.inl ⟨_,rfl,pq _ _ h.A1.1 λt ht=>Ol t (h.A1.2 t ht),rfl⟩,?_⟩;refine ev ?_;refine⟨.d (.slice (Aw x.params)),.inl ⟨_,rfl,dY _ _ h.params.1 λt ht=>Vl t (h.params.2 t ht),rfl⟩,?_⟩;refine ev ?_;refine⟨Ba x.result,.inl ⟨_,rfl,IF x.result h.result,rfl⟩,?_⟩;refine ev ?_;apply E;refine sR [0,1,2] ?_;exact aR
def F4n(x:Decl)(h:x.Sm):Ab prog 170 [Hw x] (Hw x):=by refine cB func170 ?_;refine sR [0,1,2] ?_;refine sG [0,1,2] [] 10 [] λK E=>?_;refine ev ?_;refine⟨.d (.slice (Ai x.A1)),.inl ⟨_,rfl,pq _ _ h.A1.1 λt ht=>Ol t (h.A1.2 t ht),rfl⟩,?_⟩;refine ev ?_;refine⟨.d (.slice (Aw x.fields)),.inl ⟨_,rfl,dY _ _ h.fields.1 λt ht=>Vl t (h.fields.2 t ht),rfl⟩,?_⟩;refine ev ?_;refine⟨.d (.slice (B4 x.sigs)),.inl ⟨_,rfl,bw _ _ h.sigs.1 λt ht=>te t (h.sigs.2 t ht),rfl⟩,?_⟩;refine ev ?_;apply E;refine sG [0,1,2] [] 10 [] λK E=>?_;refine ev ?_;refine⟨Cm x.vars,.inl ⟨_,rfl,H4c _ h.vars.1,rfl⟩,?_⟩;refine ev ?_;refine⟨Db x.sig,.inl ⟨_,rfl,te _ h.sig,rfl⟩,?_⟩;refine ev ?_;refine⟨D6 x.body,.inl ⟨_,rfl,JZ _ h.body,rfl⟩,?_⟩;refine ev ?_;apply E;refine sR [0,1,2] ?_;exact aR
def MW(p:Prog)(h:p.Sm):Ab prog 84 [Cs p] (Cs p):=by refine cB func84 ?_;refine sR [0,1,2] ?_;refine sG [0,1,2] [] 5 [] λK E=>?_;refine ev ?_;refine⟨.d (.slice (Bx p.decls)),.inl ⟨_,rfl,wy _ _ h.decls.1 λt ht=>F4n t (h.decls.2 t ht),rfl⟩,?_⟩;refine ev ?_;refine⟨D6 p.main,.inl ⟨_,rfl,JZ _ h.main,rfl⟩,?_⟩;refine ev ?_;apply E;exact aR
def E3{α:Type}(p:α->Bool)(l:List α):Int:=match l.findIdx? p with
 |some i=>i
 |none=>-1
theorem T5{α:Type}{p:α->Bool}{l:List α}(h:∀x,x∈l->p x=false):E3 p l = -1:=by unfold E3;rw[vR.2 h]
def Rv{α:Type}{p:α->Bool}{l:List α}{j:Nat}{x:α}(J:l[j]?=some x)(hp:p x=true)(h:∀y,y∈l.take j->p y=false):E3 p l=j:=by
 unfold E3;have:l.findIdx? p=some j:=by rw[MG];obtain⟨E,I⟩:=Az.1 J;refine⟨E,by rw[I];exact hp,?_⟩;intro i L;have:=h l[i] (List.mem_take_iff_getElem.2 ⟨i,by omega,by simp⟩);simpa using this
 rw[this]
abbrev JC:=[0,1,4,5,7,8,9,16]
def sx(f:FuncId)(caps:List SV)(J:∀x:Aj,Gz [] (Th x::caps)=some (Th x::caps))(p:Aj->Bool)(l:List Aj)(V:l.length<=sm)(hs:∀t,t∈l->Ab prog f (Th t::caps) (.d (.bool (p t)))) :Ab prog 161 [.d (.slice (Ai l)),.Bi f caps] (A6 (E3 p l)):=by
 refine cB func161 ?_;refine sR JC ?_;refine kR JC λW u1=>?_;refine bA (A0.ii l (X:=Unit) (λj _=>[(0,.d (.slice (Ai l))),(1,.Bi f caps),(7,A6 l.length),(8,A6 j)]) (λ_ _=>[]) (λj _=>∀y,y∈l.take j->p y=false) () (by simp) sS sB ?_ ?_);intro _ E;rw[Ca]at E;refine Ak B1 JC ?_;refine A0.stop rfl ?_;simp only[Aa,Af,Av];refine u1 _ _<|sR JC ?_;rw[T5 E];exact aR
 .intro j _ d hd I Z tk O E;refine Ak O JC ?_;refine kA rfl<|sK λU u2=>bA<|sR JC ?_
  refine sV JC λK z=>?_;refine ci (Fm hd) ?_;refine⟨_,.inl ⟨_,J d,hs d I,rfl⟩,?_⟩;(try refine ev ?_);apply z;refine A0.cond rfl (λL=>?_) (λL=>?_);refine sR JC ?_;rw[Rv hd L E];exact aR;refine cA (u2 _ _ ?_);refine lT JC ?_;refine⟨(),?_,sS,sB⟩;rw[tk];intro y hy;rcases Bj.1 hy with hy|hy;exact E y hy;simp only[Ay,Eh,Eo]at hy;rw[hy];exact L
abbrev IC:=[0,1,4,5,7,8,9,16]
def YZ(f:FuncId)(caps:List SV)(J:∀x:Param,Gz [] (Ma x::caps)=some (Ma x::caps))(p:Param->Bool)(l:List Param)(V:l.length<=sm)(hs:∀t,t∈l->Ab prog f (Ma t::caps) (.d (.bool (p t)))) :Ab prog 287 [.d (.slice (Aw l)),.Bi f caps] (A6 (E3 p l)):=by
 refine cB func287 ?_;refine sR IC ?_;refine kR IC λW u1=>?_;refine bA (A0.ii l (X:=Unit) (λj _=>[(0,.d (.slice (Aw l))),(1,.Bi f caps),(7,A6 l.length),(8,A6 j)]) (λ_ _=>[]) (λj _=>∀y,y∈l.take j->p y=false) () (by simp) sS sB ?_ ?_);intro _ E;rw[Ca]at E;refine Ak B1 IC ?_;refine A0.stop rfl ?_;simp only[Aa,Af,Av];refine u1 _ _<|sR IC ?_;rw[T5 E];exact aR
 .intro j _ d hd I Z tk O E;refine Ak O IC ?_;refine kA rfl<|sK λU u2=>bA<|sR IC ?_
  refine sV IC λK z=>?_;refine ci (Dt hd) ?_;refine⟨_,.inl ⟨_,J d,hs d I,rfl⟩,?_⟩;(try refine ev ?_);apply z;refine A0.cond rfl (λL=>?_) (λL=>?_);refine sR IC ?_;rw[Rv hd L E];exact aR;refine cA (u2 _ _ ?_);refine lT IC ?_;refine⟨(),?_,sS,sB⟩;rw[tk];intro y hy;rcases Bj.1 hy with hy|hy;exact E y hy;simp only[Ay,Eh,Eo]at hy;rw[hy];exact L
abbrev HC:=[0,1,4,5,7,8,9,16]
def G0f(f:FuncId)(caps:List SV)(J:∀x:A4,Gz [] (Db x::caps)=some (Db x::caps))(p:A4->Bool)(l:List A4)(V:l.length<=sm)(hs:∀t,t∈l->Ab prog f (Db t::caps) (.d (.bool (p t)))) :Ab prog 204 [.d (.slice (B4 l)),.Bi f caps] (A6 (E3 p l)):=by
 refine cB func204 ?_;refine sR HC ?_;refine kR HC λW u1=>?_;refine bA (A0.ii l (X:=Unit) (λj _=>[(0,.d (.slice (B4 l))),(1,.Bi f caps),(7,A6 l.length),(8,A6 j)]) (λ_ _=>[]) (λj _=>∀y,y∈l.take j->p y=false) () (by simp) sS sB ?_ ?_);intro _ E;rw[Ca]at E;refine Ak B1 HC ?_;refine A0.stop rfl ?_;simp only[Aa,Af,Av];refine u1 _ _<|sR HC ?_;rw[T5 E];exact aR
 .intro j _ d hd I Z tk O E;refine Ak O HC ?_;refine kA rfl<|sK λU u2=>bA<|sR HC ?_
  refine sV HC λK z=>?_;refine ci (Dg hd) ?_;refine⟨_,.inl ⟨_,J d,hs d I,rfl⟩,?_⟩;(try refine ev ?_);apply z;refine A0.cond rfl (λL=>?_) (λL=>?_);refine sR HC ?_;rw[Rv hd L E];exact aR;refine cA (u2 _ _ ?_);refine lT HC ?_;refine⟨(),?_,sS,sB⟩;rw[tk];intro y hy;rcases Bj.1 hy with hy|hy;exact E y hy;simp only[Ay,Eh,Eo]at hy;rw[hy];exact L
abbrev bE:=[0,2,3,5,6,7,8,9]
def fK(l:List Aj)(O:l.length<=sm):Ab prog 165 [.d (.slice (Ai l))] (.d (.slice (Bq (l.map (·.name))))):=by
 refine cB func165 ?_;refine sR bE ?_;refine sR bE ?_;refine A0.pp 3 1 3 rfl<|kR bE λU u1=>?_;refine bA (A0.ii l (X:=Unit) (λj _=>[(3,.acc 3),(6,.d (.slice (Ai l))),(7,A6 l.length),(8,A6 j)]) (λj _=>[(3,.rows 1 (Bq ((l.take j).map (·.name))))]) (λj _=>True) () trivial sS (by simp[ble,A9,Bq]) ?_ ?_)
 intro _ L;rw[Ca];refine Ak B1 bE ?_;refine A0.stop rfl ?_;simp only[Aa,Af,Av];refine u1 _ _<|sR bE ?_;exact aR
 .intro j _ d hd I V tk E L;rw[tk];refine Ak E bE ?_;refine kA rfl<|sK λJ u2=>bA<|sI (Fm hd) [0,2,3,5,6,7,8,9] ?_
  (refine lV bE λK z=>?_;refine⟨by simp,by simp only[B7,Dh];unfold lim sm at*;omega,?_⟩;(try refine ev ?_);apply z;try simp only[Aa,Af]);apply u2;refine lT bE ?_;exact⟨(),trivial,sS,by simp[ble,A9,Bq]⟩
abbrev YD:=[0,2,3,4,8]
def Ss(l:List Aj)(O:l.length<=sm):Ab prog 54 [.d (.slice (Ai l))] (.d (.slice (Bq (l.map (·.name))))):=by
 refine cB func54 ?_;refine sR YD ?_;refine sR YD ?_;refine A0.pp 3 1 3 rfl<|kR YD λU u1=>?_;refine bA (A0.ii l (X:=Unit) (λj _=>[(0,.d (.slice (Ai l))),(3,.acc 3),(4,A6 j)]) (λj _=>[(3,.rows 1 (Bq ((l.take j).map (·.name))))]) (λj _=>True) () trivial sS (by simp[ble,A9,Bq]) ?_ ?_)
 intro _ L;rw[Ca];refine Ag B1 YD λE u2=>?_;refine sE ?_;refine u1 _ _<|sR YD ?_;exact aR
 intro j _ d hd J V tk I L;rw[tk];refine Ag I YD λE u2=>?_;refine gI u2 ?_;refine sK λE u2=>bA ?_;(refine lV YD λK z=>?_;refine ci (Fm hd) ?_;refine⟨by simp,by simp only[B7,Dh];unfold lim sm at*;omega,?_⟩;(try refine ev ?_);apply z;try simp only[Aa,Af]);apply u2;refine lT YD ?_;exact⟨(),trivial,sS,by simp[ble,A9,Bq]⟩
def JT:∀a b:A3,(Op.bytesLess a b=true↔Bw a b = -1)/\(Op.bytesLess b a=true↔Bw a b=1)/\(Bw a b = -1\/Bw a b=0\/Bw a b=1)
 |[],[]=>by simp[Op.bytesLess,Bw]
 |[],_::_=>by simp[Op.bytesLess,Bw]
 |_::_,[]=>by simp[Op.bytesLess,Bw]
 |x::xs,y::ys=>by
  obtain⟨W,O,V⟩:=JT xs ys;simp only[Op.bytesLess,Bw,U7,Bh,Di,W8];by_cases I:x<y
  .have L:¬y<x:=λh=>QC x (UInt8.lt_trans I h);have E:¬y=x:=λh=>by subst h;exact QC _ I
   simp[I,L,E]
  .by_cases J:y<x
   .have E:¬x=y:=λh=>by subst h;exact QC _ J
    simp[I,J,E]
   .have U:x=y:=by rcases qR x.toNat y.toNat with h|h|h;exact absurd (JG.2 h) I;exact UInt8.toNat_inj.1 h;exact absurd (JG.2 h) J
    subst U;simp[QC,W,O,V]
def fT:∀a:A3,Bw a a=0
 |[]=>rfl
 |x::xs=>by rw[Bw,A5 (QC x),A5 (QC x)];exact fT xs
def To:∀{a b:A3},Bw a b=0↔a=b
 |[],[]=>by simp[Bw]
 |[],_::_=>by simp[Bw]
 |_::_,[]=>by simp[Bw]
 |x::xs,y::ys=>by
  rw[Bw];by_cases I:x<y
  .have E:¬x=y:=λh=>by subst h;exact QC _ I
   simp[I,E]
  .by_cases J:y<x
   .have E:¬x=y:=λh=>by subst h;exact QC _ J
    simp[I,J,E]
   .have L:x=y:=by rcases qR x.toNat y.toNat with h|h|h;exact absurd (JG.2 h) I;exact UInt8.toNat_inj.1 h;exact absurd (JG.2 h) J
    subst L;simp[QC,To]
def oY(a:A3):Ab prog 254 [Bo a] (Ar false):=by refine cB func254 ?_;refine sR [0,2] ?_;refine sR [0,2] ?_;exact aR
abbrev Z4:=[0,1,4,5,6,11,12,13,16,19]
def G3w(a b:A3):Ab prog 168 [Bo a,Bo b] (A6 (Bw a b)):=by
 obtain⟨O,L,U⟩:=JT a b;refine cB func168 ?_;refine sR Z4 ?_;refine sC (oY a) Z4 ?_;refine sC (oY b) Z4 ?_;refine kR Z4 λI u1=>?_;refine kI u1 ?_;refine kR Z4 λI u1=>?_;refine kI u1 ?_;refine kR Z4 λI u1=>?_;refine pA rfl u1 (λJ=>?_) (λJ=>?_);refine sR Z4 ?_;rw[O.1 J];exact aR;refine kR Z4 λI u1=>?_;refine pA rfl u1 (λE=>?_) (λE=>?_);refine sR Z4 ?_;rw[L.1 E];exact aR;refine sR Z4 ?_;have:Bw a b=0:=by rcases U with h|h|h;rw[O.2 h]at J;simp at J;exact h;rw[L.2 h]at E;simp at E
 rw[this];exact aR
def F4y(a b:A3):Ab prog 83 [Bo a,Bo b] (A6 (Bw a b)):=by refine cB func83 ?_;refine sR [0,1,4] ?_;refine sC (G3w a b) [0,1,4] ?_;exact aR
abbrev EC:=[0,2,3,5,6,7,8,9,14]
def G4k(a b:Int):Ab prog 263 [.d (.slice [[.int .i64 a],[.int .i64 b]])] (A6 (if a≠0 then a else b)):=by
 refine cB func263 ?_;refine sR EC ?_;refine sR EC ?_;refine kR EC λK1 u1=>?_;refine bA (A0.ii [a,b] (X:=Unit) (λj _=>[(3,A6 0),(6,.d (.slice [[.int .i64 a],[.int .i64 b]])),(7,A6 2),(8,A6 j)]) (λ_ _=>[]) (λj _=>(1<=j->a=0)/\(2<=j->b=0)) () (by simp) sS sB ?_ ?_);intro _ I;refine sR EC ?_;refine A0.stop rfl ?_;simp only[Aa,Af,Av];refine u1 _ _<|sR EC ?_;obtain⟨U,O⟩:=I;simp only[Bg,Ck]at U O;rw[U (by omega),O (by omega)];exact aR
 .intro j _ d hd V dp tk L I;have E:(j:Int)<2:=by simpa using L
  have W:([[.int .i64 a],[.int .i64 b]]:List (List D))[j]?=some [.int .i64 d]:=by
   match j,hd,E with
   |0,hd,_=>simp at hd;subst hd;rfl
   |1,hd,_=>simp at hd;subst hd;rfl
   |j+2,_,h=>omega
  refine Ak E EC ?_;refine kA rfl<|sK λK2 u2=>bA<|sI W [0,2,3,5,6,7,8,9,14] ?_;refine sR EC ?_;refine A0.cond rfl (λJ=>?_) (λJ=>?_)
  .refine sR EC ?_;have Z:(if a≠0 then a else b)=d:=by
    simp only[Di,]at J
    match j,hd,I with
    |0,hd,_=>simp at hd;subst hd;rw[A7 J]
    |1,hd,I=>simp at hd;subst hd;rw[A5 (by simp[I.1 (by omega)])]
    |j+2,hd,_=>simp at hd
   rw[Z];exact aR
  .refine cA (u2 _ _ ?_)
   (refine lV EC λK z=>?_;refine cl ?_;apply z;try simp only[Aa,])
   refine⟨(),?_,sS,sB⟩;simp only[lC,Decidable.not_not]at J
   match j,hd,I with
   |0,hd,_=>simp at hd;subst hd;exact⟨λ_=>J,by omega⟩
   |1,hd,I=>simp at hd;subst hd;exact⟨λ_=>I.1 (by omega),λ_=>J⟩
   |j+2,hd,_=>simp at hd
mutual
def Er:Ty->Ty->Int
 |.mk n a _,u=>if Bw n u.name≠0 then Bw n u.name else Et a u.args
def Et:List Ty->List Ty->Int
 |[],[]=>0
 |[],_::_=>-1
 |_::_,[]=>1
 |x::xs,y::ys=>if Er x y≠0 then Er x y else Et xs ys
end
def DF(t u:Ty):Er t u=if Bw t.name u.name≠0 then Bw t.name u.name else Et t.args u.args:=by cases t with|mk n a p=>rw[Er];rfl
def R9(t u:Ty):Bool:=decide (Er t u=0)
abbrev V9:=[0,1,2,6,7,8,9,10,11,12,13,14,21,31,38]
def F8n(f:FuncId)(l m:List Ty)(hl:l.length<=sm)(hf:∀t,t∈l->∀u,Ab prog f [Ba t,Ba u] (A6 (Er t u))) :Ab prog 264 [Cv l,Cv m,.Bi f []] (A6 (Et l m)):=by
 refine cB func264 ?_;refine sR V9 ?_;refine kR V9 λV u1=>?_;refine bA (A0.ii l (X:=Unit) (λj _=>[(0,Cv l),(1,Cv m),(2,.Bi f []),(11,Cv l),(12,A6 l.length),(13,A6 j)]) (λ_ _=>[]) (λj _=>j<=m.length/\Et (l.drop j) (m.drop j)=Et l m) () (by simp) sS sB ?_ ?_)
 .rintro _ ⟨hj,I⟩;refine Ak B1 V9 ?_;refine A0.stop rfl ?_;simp only[Aa,Af,Av];apply u1;rw[Dk]at I;refine kR V9 λV u1=>?_;refine pA rfl u1 (λE=>?_) (λE=>?_)
  .refine sR V9 ?_;have:Et l m = -1:=by
    rw[<-I];have E:l.length<m.length:=by simpa using E
    rw[H7 E,Et]
   rw[this];exact aR
  .refine sR V9 ?_;have:Et l m=0:=by
    rw[<-I];have E:m.length<=l.length:=by simpa using E
    rw[Jk E,Et]
   rw[this];exact aR
 .rintro j _ d hd L dp tk U ⟨hj,I⟩;rw[dp]at I;refine Ak U V9 ?_;refine kA rfl<|sK λK2 u2=>bA<|sI (Fs hd) [0,1,2,6,7,8,9,10,11,12,13,14,21,31,38] ?_;refine kR V9 λK3 Z=>?_;refine pA rfl Z (λE=>?_) (λE=>?_)
  .refine sR V9 ?_;have:Et l m=1:=by
    rw[<-I];have E:m.length<=j:=by simpa using E
    rw[Jk E,Et]
   rw[this];exact aR
  have J:j<m.length:=by simpa using E
  obtain⟨e,O⟩:∃e,m[j]?=some e:=⟨_,Bu J⟩;have W:m.drop j=e::m.drop (j+1):=by rw[H7 J];rw[Bu J]at O;simp only[B8]at O;rw[O]
  rw[W,Et]at I;refine sI (Fs O) [0,1,2,6,7,8,9,10,11,12,13,14,21,31,38] ?_;refine sC (hf d L e) V9 ?_;refine sR V9 ?_;refine A0.cond rfl (λE=>?_) (λE=>?_);refine sR V9 ?_;rw[A7 (by simpa using E)]at I;rw[<-I];exact aR;rw[A5 (by simpa using E)]at I;refine cA (u2 _ _ ?_);refine lT V9 ?_;exact⟨(),⟨by omega,I⟩,sS,sB⟩
def G6e:∀(t:Ty),t.Sm->∀u:Ty,Ab prog 172 [Ba t,Ba u] (A6 (Er t u)):=by
 intro t
 induction t using Ty.induct with
 |h t J =>
 intro hs u;rw[DF];have E:=F8n 172 t.args u.args hs.len (λx I y=>J x I (hs.arg x I) y);refine cB func172 ?_;refine sR [0,1,2,3,4] ?_
 (refine sG [0,1,2,3,4] [] 9 [] λK z=>?_;refine ev ?_;refine cc (F4y t.name u.name) ?_;refine cc E ?_;refine cc (G4k _ _) ?_;apply z)
 exact aR
def qO(t u:Ty)(hs:t.Sm):Ab prog 86 [Ba t,Ba u] (Ar (R9 t u)):=by unfold R9;refine cB func86 ?_;refine sR [0,1,2,3,4] ?_;refine sC (G6e t hs u) [0,1,2,3,4] ?_;exact aR
inductive Ty.Lm:Ty->Prop where
 |mk (n:A3) (a:List Ty) (p:Int):a.length<=sm->(∀t,t∈a->Ty.Lm t)->Ty.Lm (.mk n a p)
def Ty.Lm.len(h:t.Lm):t.args.length<=sm:=by cases h;assumption
def Ty.Lm.arg(h:t.Lm):∀u,u∈t.args->u.Lm:=by cases h;assumption
def Ty.Sm.lm:∀{t:Ty},t.Sm->t.Lm:=λh=>by induction h with|mk n a p _ I _ E=>exact .mk n a p I E
abbrev Qk:=[0,1,2,3,4,5,6,11,28,43,51,58]
def p8:∀(t:Ty),t.Lm->∀u:Ty,Ab prog 122 [Ba t,Ba u] (A6 (Er t u)):=by
 intro t
 induction t using Ty.induct with
 |h t ih =>
 intro hs u;have a2:=hs.len;rw[DF];refine cB func122 ?_;refine sR Qk ?_;refine kR Qk λJ u1=>?_;refine pA rfl u1 (λE=>?_) (λE=>?_)
 .refine sC (eN t.name u.name) Qk ?_;rw[A7 (λh=>(by simpa using E:¬t.name=u.name) (To.1 h))];exact aR
 have a1:t.name=u.name:=by simpa using E
 rw[A5 (by rw[a1];simp[fT])];refine kR Qk λJ u1=>?_;have V:∀(j:Nat) sl bx,sle sl [(2,.box 2 0),(3,.box 3 0)]->ble bx [(2,.cells [.d (.str t.name),Cv t.args,A6 t.pos]),(3,.cells [.d (.str u.name),Cv u.args,A6 u.pos])]->j<=t.args.length->j<=u.args.length->(t.args.length=j\/u.args.length=j)->Et (t.args.drop j) (u.args.drop j)=Et t.args u.args->J sl bx:=by
  intro j sl bx h1 h2 a4 a3 a5 I;refine u1 _ _ (A0.ww h1 h2 ?_);refine kR Qk λJ u1=>?_;refine pA rfl u1 (λE=>?_) (λE=>?_)
  .refine sR Qk ?_;have:Et t.args u.args = -1:=by
    rw[<-I];have E:t.args.length<u.args.length:=by simpa using E
    have:t.args.length=j:=by omega
    rw[Jk (by omega),H7 (show j<u.args.length by omega),Et]
   rw[this];exact aR
  refine kR Qk λJ u1=>?_;refine pA rfl u1 (λO=>?_) (λO=>?_)
  .refine sR Qk ?_;have:Et t.args u.args=1:=by
    rw[<-I];have E:u.args.length<t.args.length:=by simpa using O
    rw[H7 (show j<t.args.length by omega),Jk (show u.args.length<=j by omega),Et]
   rw[this];exact aR
  refine sR Qk ?_;have:Et t.args u.args=0:=by
   rw[<-I];have h1:u.args.length<=t.args.length:=by simpa using E
   have h2:t.args.length<=u.args.length:=by simpa using O
   rw[Jk (by omega),Jk (by omega),Et]
  rw[this];exact aR
 refine bA (A0.ii t.args (X:=Unit) (λj _=>[(2,.box 2 0),(3,.box 3 0),(5,A6 j)]) (λ_ _=>[(2,.cells [.d (.str t.name),Cv t.args,A6 t.pos]),(3,.cells [.d (.str u.name),Cv u.args,A6 u.pos])]) (λj _=>j<=u.args.length/\Et (t.args.drop j) (u.args.drop j)=Et t.args u.args) () (by simp) sS sB ?_ ?_)
 .rintro _ ⟨hj,I⟩;refine Ag B1 Qk λK2 u2=>?_;refine sE ?_;exact V t.args.length _ _ sS sB (Bv _) hj (.inl rfl) I
 .rintro j _ d hd L dp tk U ⟨hj,I⟩;refine sK λK2 u2=>?_;by_cases W:(j:Int)<(u.args.length:Int)
  .obtain⟨e,Z⟩:∃e,u.args[j]?=some e:=⟨_,Bu (by omega)⟩;have a0:u.args.drop j=e::u.args.drop (j+1):=by
    rw[H7 (by omega)];rw[Bu (by omega)]at Z;simp only[B8]at Z;rw[Z]
   rw[dp,a0,Et]at I;refine Ee U W Qk ?_;refine gI u2 ?_;refine sK λK2 u2=>bA ?_
   (refine sG Qk [] 10 [] λK z=>?_;refine ev ?_;refine ci (Fs hd) ?_;refine ci (Fs Z) ?_;refine cc (ih d L (hs.arg d L) e) ?_;apply z)
   refine sR Qk ?_;refine A0.cond rfl (λE=>?_) (λE=>?_)
   .refine sR Qk ?_;rw[A7 (by simpa using E)]at I;rw[<-I];exact aR
   rw[A5 (by simpa using E)]at I;refine cA (u2 _ _ ?_);refine lT Qk ?_;exact⟨(),⟨by omega,I⟩,sS,sB⟩
  .refine Ee U W Qk ?_;refine sE ?_;exact V j _ _ sS sB (by omega) hj (.inr (by omega)) I
def kW(t:Ty)(h:t.Sm)(u:Ty):Ab prog 122 [Ba t,Ba u] (A6 (Er t u)):=p8 t h.lm u
def XI(t u:Ty)(hs:t.Lm):Ab prog 132 [Ba t,Ba u] (Ar (R9 t u)):=by unfold R9;refine cB func132 ?_;refine sR [0,1,2,3,4] ?_;refine sC (p8 t hs u) [0,1,2,3,4] ?_;exact aR
def F4m(t u:Ty)(hs:t.Sm):Ab prog 132 [Ba t,Ba u] (Ar (R9 t u)):=XI t u hs.lm
abbrev exS(e:Ex):List SV:=[.d (.int .i64 e.kind),.d (.str e.name),.d (.str e.type.name),.d (.slice (Au e.type.args)),.d (.int .i64 e.type.pos),.d (.slice (Au e.targs)),.d (.slice (Ed e.kids)),.d (.int .i64 e.pos)]
def Td:List Ty->List Ty->Bool
 |[],[]=>true
 |x::xs,y::ys=>R9 x y && Td xs ys
 |_,_=>false
def fe:∀{l m:List Ty},Td l m=true->l.length=m.length
 |[],[],_=>rfl
 |x::xs,y::ys,h=>by simp only[Td,Bh]at h;simp[fe h.2]
 |[],_::_,h=>by simp[Td]at h
 |_::_,[],h=>by simp[Td]at h
mutual
def oI:Ex->Ex->Bool
 |.mk k n t a ks _,u=>decide (k=u.kind) && decide (n=u.name) && R9 t u.type && Td a u.targs && Ve ks u.kids
def Ve:List Ex->List Ex->Bool
 |[],[]=>true
 |x::xs,y::ys=>oI x y && Ve xs ys
 |_,_=>false
end
def H6o(e u:Ex):oI e u=(decide (e.kind=u.kind) && decide (e.name=u.name) && R9 e.type u.type && Td e.targs u.targs && Ve e.kids u.kids):=by cases e with|mk k n t a ks p=>rw[oI];rfl
def LY:∀{l m:List Ex},Ve l m=true->l.length=m.length
 |[],[],_=>rfl
 |x::xs,y::ys,h=>by rw[Ve,Bh]at h;simp[LY h.2]
 |[],_::_,h=>by simp[Ve]at h
 |_::_,[],h=>by simp[Ve]at h
def YG{α:Type}{l:List α}{j:Nat}(h:j<l.length):∃e,l[j]?=some e/\l.drop j=e::l.drop (j+1):=⟨l[j],Bu h,H7 h⟩
abbrev Yx:=[0,1,4,5,10,14,26]
def G0h(l m:List Ty)(hl:l.length<=sm)(hs:∀t,t∈l->t.Lm):Ab prog 183 [Cv l,Cv m] (Ar (Td l m)):=by
 refine cB func183 ?_;refine sR Yx ?_;refine kR Yx λW u1=>?_;refine pA rfl u1 (λE=>?_) (λE=>?_)
 .refine sR Yx ?_;have:Td l m=false:=by
   cases h:Td l m with
   |false=>rfl
   |true=>have:=fe h;simp[this]at E
  rw[this];exact aR
 have O:l.length=m.length:=by
  have:(l.length:Int)=m.length:=by simpa using E
  omega
 refine kR Yx λW u1=>?_;refine bA (A0.ii l (X:=Unit) (λj _=>[(0,Cv l),(1,Cv m),(5,A6 j)]) (λ_ _=>[]) (λj _=>Td (l.drop j) (m.drop j)=Td l m) () (by simp) sS sB ?_ ?_);intro _ I;refine Ag B1 Yx λL u2=>?_;refine sE ?_;refine u1 _ _<|sR Yx ?_;rw[Dk,O,Dk]at I;rw[<-I];exact aR
 intro j _ d hd J dp tk U I;obtain⟨e,Z,V⟩:=YG (l:=m) (j:=j) (by omega);rw[dp,V,Td]at I;refine Ag U Yx λL u2=>?_;refine gI u2 ?_;refine sK λL u2=>bA ?_;refine sG Yx [] 8 [] λK z=>?_;refine ev ?_;refine ci (Fs hd) ?_;refine ci (Fs Z) ?_;refine cc (XI d e (hs d J)) ?_;apply z;refine A0.cond rfl (λE=>?_) (λE=>?_);refine sR Yx ?_;simp only[Lu]at E;rw[E,C6]at I;rw[<-I];exact aR;simp only[Uw]at E;rw[E,Ch]at I;refine cA (u2 _ _ ?_);refine lT Yx ?_;exact⟨(),I,sS,sB⟩
inductive Ex.Lm:Ex->Prop where
 |mk (k:Int) (n:A3) (t:Ty) (a:List Ty) (ks:List Ex) (p:Int):t.Lm->a.length<=sm->(∀t,t∈a->t.Lm)->ks.length<=sm->(∀e,e∈ks->Ex.Lm e)->Ex.Lm (.mk k n t a ks p)
def Ex.Lm.type(h:e.Lm):e.type.Lm:=by cases h;assumption
def Ex.Lm.targs(h:e.Lm):e.targs.length<=sm/\∀t,t∈e.targs->t.Lm:=by cases h;exact⟨by assumption,by assumption⟩
def Ex.Lm.kids(h:e.Lm):e.kids.length<=sm/\∀t,t∈e.kids->t.Lm:=by cases h;exact⟨by assumption,by assumption⟩
def Ex.Sm.lm:∀{e:Ex},e.Sm->e.Lm:=by
 intro e
 induction e using Ex.induct with
 |h e I =>
 intro h;obtain⟨k,n,t,a,ks,p⟩:=e;exact .mk k n t a ks p h.type.lm h.targs.1 (λu E=>(h.targs.2 u E).lm) h.kids.1 λu E=>I u E (h.kids.2 u E)
abbrev Pg:=[0,1,2,3,4,5,42,47,61]
def G1n:∀(a:Ex),a.Lm->∀b:Ex,Ab prog 106 [D6 a,D6 b] (Ar (oI a b)):=by
 intro a
 induction a using Ex.induct with
 |h a ih =>
 intro hs b;have a2:=hs.kids.1;have O:=G0h a.targs b.targs hs.targs.1 hs.targs.2;have E:=XI a.type b.type hs.type;rw[H6o];refine cB func106 ?_;refine sR Pg<|sK λK1 u1=>?_;by_cases I:a.kind=b.kind
 .by_cases L:a.name=b.name
  .rcases Fc (R9 a.type b.type)with h3|h3
   .rw[h3]at E;rcases Fc (Td a.targs b.targs)with h4|h4
    .rw[h4]at O
     (refine sQ Pg λK z=>?_;refine G1 I L ?_;refine cc E ?_;refine cc O ?_;apply z)
     refine pA rfl u1 (λJ=>?_) (λJ=>?_)
     .refine sR Pg ?_;have:Ve a.kids b.kids=false:=by
       cases h:Ve a.kids b.kids with
       |false=>rfl
       |true=>have:=LY h;simp[this]at J
      rw[this,Tx];exact aR
     simp only[I,L,h3,h4,Xx,Ch];have Z:a.kids.length=b.kids.length:=by
      have:(a.kids.length:Int)=b.kids.length:=by simpa using J
      omega
     refine kR Pg λK1 u1=>?_;refine bA (A0.ii a.kids (X:=Unit) (λj _=>[(2,.box 2 0),(3,.box 3 0),(5,A6 j)]) (λ_ _=>[(2,.cells (exS a)),(3,.cells (exS b))]) (λj _=>Ve (a.kids.drop j) (b.kids.drop j)=Ve a.kids b.kids) () (by simp) sS (by simp[ble,A9,I,L]) ?_ ?_)
     .intro _ U;refine Ag B1 Pg λW u2=>?_;refine sE ?_;refine u1 _ _<|sR Pg ?_;rw[Dk,Z,Dk]at U;rw[<-U,Ve];exact aR
     .intro j _ d hd V dp tk a0 U;obtain⟨e,he,a1⟩:=YG (l:=b.kids) (j:=j) (by omega);rw[dp,a1,Ve]at U;refine Ag a0 Pg λW u2=>?_;refine gI u2 ?_;refine sK λW u2=>bA ?_
      (refine sG Pg [] 10 [] λK z=>?_;refine ev ?_;refine ci (Ey hd) ?_;refine ci (Ey he) ?_;refine cc (ih d V (hs.kids.2 d V) e) ?_;apply z)
      refine A0.cond rfl (λJ=>?_) (λJ=>?_)
      .refine sR Pg ?_;simp only[Lu]at J;rw[J,C6]at U;rw[<-U];exact aR
      simp only[Uw]at J;rw[J,Ch]at U;refine cA (u2 _ _ ?_);refine lT Pg ?_;exact⟨(),U,sS,sB⟩
    .rw[h4]at O
     (refine sQ Pg λK z=>?_;refine G1 I L ?_;refine cc E ?_;refine cc O ?_;apply z)
     refine tI ?_;refine sR Pg ?_;simp only[I,L,h3,h4,Xx,Ch,C6];exact aR
   .rw[h3]at E
    (refine sQ Pg λK z=>?_;refine G1 I L ?_;refine cc E ?_;apply z)
    refine tI ?_;refine sR Pg ?_;simp only[I,L,h3,Xx,Ch,C6];exact aR
  .refine Ee I L Pg ?_;refine tI ?_;refine sR Pg ?_;simp only[I,L,Xx,CG,Ch,C6];exact aR
 .refine Ak I Pg ?_;refine tI ?_;refine sR Pg ?_;simp only[I,CG,C6];exact aR
def Fk(env:List Aj)(t:Ty):Int:=if t.args.length=0 then E3 (λf=>decide (f.name=t.name)) env else -1
abbrev Z6:=[0,1,3,4,5,15,25]
def OI(env:List Aj)(t:Ty)(hl:env.length<=sm):Ab prog 118 [.d (.slice (Ai env)),Ba t] (A6 (Fk env t)):=by
 unfold Fk;refine cB func118 ?_;refine sR Z6 ?_;refine kR Z6 λK1 u1=>?_;have I:∀sl bx,(if t.args.length=0 then E3 (λf=>decide (f.name=t.name)) env else -1) = -1->K1 sl bx:=by intro sl bx h;refine u1 _ _<|sR Z6 ?_;rw[h];exact aR
 by_cases O:t.args.length=0
 .have E:(t.args.length:Int)=0:=by omega
  refine bA (A0.ii env (X:=Unit) (λj _=>[(0,.d (.slice (Ai env))),(3,.box 3 0),(5,A6 j)]) (λ_ _=>[(3,.cells [.d (.str t.name),Cv t.args,A6 t.pos])]) (λj _=>∀y,y∈env.take j->(λf:Aj=>decide (f.name=t.name)) y=false) () (by simp) sS sB ?_ ?_);intro _ J;refine Ag B1 Z6 λL u2=>?_;refine sE ?_;rw[Ca]at J;exact I _ _ (by rw[A7 O,T5 J]);intro j _ d hd Z dp tk V J;refine Dq V E Z6 λL u2=>?_;refine gI u2 ?_;refine sK λL u2=>bA ?_;refine sG Z6 [] 7 [] λK z=>?_;refine ev ?_;refine ci (Fm hd) ?_;apply z;refine A0.cond rfl (λU=>?_) (λU=>?_);refine sR Z6 ?_;rw[A7 O,Rv hd U J];exact aR;refine cA (u2 _ _ ?_);refine lT Z6 ?_;refine⟨(),?_,sS,sB⟩;rw[tk];intro y hy;rcases Bj.1 hy with hy|hy;exact J y hy;simp only[Ay,Eh,Eo]at hy;rw[hy];exact U
 .have E:¬(t.args.length:Int)=0:=by omega
  refine bA (A0.ii ([]:List Nat) (X:=Unit) (λj _=>[(0,.d (.slice (Ai env))),(3,.box 3 0),(5,A6 0)]) (λ_ _=>[(3,.cells [.d (.str t.name),Cv t.args,A6 t.pos])]) (λj _=>True) () trivial sS sB ?_ ?_);intro _ J;refine sK λL u2=>?_;by_cases W:(0:Int)<(env.length:Int);refine Ee E W Z6 ?_;refine sE ?_;exact I _ _ (by rw[A5 O]);refine Ak W Z6 ?_;refine sE ?_;exact I _ _ (by rw[A5 O]);intro j _ d hd;simp at hd
def By(t:Ty)(x:Aj):Ab prog 160 [Th x,.A8 (Bf t) 0] (Ar (decide (x.name=t.name))):=by refine cB func160 ?_;refine sR [0,1,2,3] ?_;refine sR [0,1,2,3] ?_;exact aR
def D3(env:List Aj)(t:Ty):Option Ty:=if Fk env t<0 then none else(env[(Fk env t).toNat]?).map (·.bound)
def qD:Option Ty->SV
 |some b=>.tuple [Ba b,Ar true]
 |none=>.tuple [Ba (.mk [] [] 0),Ar false]
theorem MH{env:List Aj}(h:¬Fk env t<0):∃f,env[(Fk env t).toNat]?=some f/\(Fk env t).toNat<env.length/\t.args.length=0:=by
 unfold Fk E3 at h |-;by_cases E:t.args.length=0
 .simp only[A7 E]at h |-;cases I:env.findIdx? (λf=>decide (f.name=t.name))with
  |none=>rw[I]at h;simp at h
  |some i =>have:=(MG.1 I).1;simp only[Ic];exact⟨env[i],Bu this,this,E⟩
 simp only[A5 E]at h;omega
abbrev iF:=[0,1,3,4,5,6,7,19]
def zP(env:List Aj)(t:Ty)(hl:env.length<=sm)(hs:∀f,f∈env->f.Sm):Ab prog 78 [.d (.slice (Ai env)),Ba t] (qD (D3 env t)):=by
 have Z:=sx 160 [.A8 (Bf t) 0] (λx=>rfl) (λf=>decide (f.name=t.name)) env hl (λx _=>By t x);unfold D3;have I:=MH (env:=env) (t:=t);have W:t.args.length=0->Fk env t=E3 (λf=>decide (f.name=t.name)) env:=λh=>by unfold Fk;rw[A7 h]
 have J:¬t.args.length=0->Fk env t = -1:=λh=>by unfold Fk;rw[A5 h]
 generalize Fk env t=i at*;generalize E3 (λf:Aj=>decide (f.name=t.name)) env=i' at*;refine cB func78 ?_;refine sR iF ?_;refine sR iF ?_;refine gA 3 rfl rfl<|A0.ww (sl':=[(0,.d (.slice (Ai env))),(3,.A8 (Bf t) 0),(4,.box 4 0),(6,.Bi 160 [.A8 (Bf t) 0])]) (bx':=[(4,.cells [.d (.str []),.d .nil,.d (.int .i64 0)])]) (by simp[Ms,SV.sub,nA,sle,B0,Ae,Bf]) (by simp[Kz,Ax.sub,nA,SV.sub,ble,A9,Cu]) ?_
 refine sC Z iF<|sK λK1 u1=>?_;by_cases ha:t.args.length=0
 .obtain rfl:=W ha;have E:¬(0:Int)<(t.args.length:Int):=by omega
  refine Ak E iF ?_;refine pA rfl u1 (λV=>?_) (λV=>?_);refine sR iF ?_;rw[A7 (by simpa using V)];exact aR;have L:¬i<0:=by simpa using V
  obtain⟨f,U,a0,_⟩:=I L;have O:=Bs U;rw[A5 L,U];have h0:0<=i:=by omega
  refine sV iF λK z=>?_;refine ci (Fm U) ?_;refine cc (IF f.bound (hs f O).bound) ?_;apply z;exact aR
 .have E:(0:Int)<(t.args.length:Int):=by omega
  rw[J ha];refine Ak E iF ?_;refine tI ?_;refine sR iF ?_;exact aR
def Ec(p:Prog)(nm:A3):Option Decl:=p.decls.find? (λd=>d.E5 nm)
def Dm(p:Prog)(nm:A3):List Aj:=match Ec p nm with
 |some d=>d.A1
 |none=>[]
abbrev NK:=[0,1,2,4,5,10]
def yQ(p:Prog)(nm:A3):Ab prog 125 [Cs p,Bo nm] (.d (.slice (Ai (Dm p nm)))):=by
 refine Ci.bd (Enters.of func125 rfl (by decide)) λI=>?_;have L:=eM I.1;have hl:=L.decls.1;refine cB func125 ?_;refine sR NK ?_;refine sC (PI p nm) NK<|sK λU u1=>?_;rcases lK nm p.decls 0 with⟨O,E⟩|⟨k,d,O,E,V⟩
 .rw[O];have J:Dm p nm=[]:=by simp[Dm,Ec,E]
  refine sR NK ?_;refine tI ?_;refine sR NK ?_;rw[J];exact aR
 .rw[E];have J:Dm p nm=d.A1:=by simp[Dm,Ec,V]
  have W:¬((0+k:Nat):Int)<0:=by omega
  have Z:((0+k:Nat):Int).toNat=k:=by omega
  refine sR NK ?_;refine kI u1 ?_;refine sI (E6 O) [0,1,2,4,5,10] ?_;rw[J];exact aR
def B9(p:Prog)(x:Ty)(k:Int):Bool:=decide (kindOf p x.name=k) && decide ((Dm p x.name).length=x.args.length)
def aG(p:Prog)(x:Ty)(k:Int):Ab prog 49 [Cs p,Ba x,A6 k] (Ar (B9 p x k)):=by
 unfold B9;have L:=yQ p x.name;have I:=yK p x.name;generalize kindOf p x.name=k' at*;generalize Dm p x.name=l at*;refine cB func49 ?_;refine sR [0,1,2,3,4,6] ?_;by_cases E:k'=k
 .have J:((l.length:Int)=(x.args.length:Int))↔l.length=x.args.length:=by omega
  (refine sG [0,1,2,3,4,6] [] 15 [] λK z=>?_;refine ev ?_;refine E0 E I ?_;refine cc L ?_;apply z)
  simp only[E,J,Xx,Ch];exact aR
 ·(refine sG [0,1,2,3,4,6] [] 15 [] λK z=>?_;refine ev ?_;refine E0 E I ?_;apply z)
  simp only[E,CG,C6];exact aR
mutual
def isVal:Ex->Bool
 |.mk k _ _ _ ks _=>NW ks && decide (k=3)
def NW:List Ex->Bool
 |[]=>true
 |e::es=>isVal e && NW es
end
abbrev wG:=[0,1,4,5,9,18]
def GL(l:List A4)(m:A3)(U:l.length<=sm):Ab prog 52 [.d (.slice (B4 l)),Bo m] (A6 (E3 (λs=>decide (s.name=m)) l)):=by
 refine cB func52 ?_;refine sR wG ?_;refine kR wG λV u1=>?_;refine bA (A0.ii l (X:=Unit) (λj _=>[(0,.d (.slice (B4 l))),(1,Bo m),(5,A6 j)]) (λ_ _=>[]) (λj _=>∀y,y∈l.take j->(λs:A4=>decide (s.name=m)) y=false) () (by simp) sS sB ?_ ?_);intro _ E;rw[Ca]at E;refine Ag B1 wG λI u2=>?_;refine sE ?_;refine u1 _ _<|sR wG ?_;rw[T5 E];exact aR
 .intro j _ d hd O W tk L E;refine Ag L wG λI u2=>?_;refine gI u2 ?_;refine sK λI u2=>bA<|sI (Dg hd) [0,1,4,5,9,18] ?_;refine A0.cond rfl (λJ=>?_) (λJ=>?_)
  refine sR wG ?_;rw[Rv hd J E];exact aR;refine cA (u2 _ _ ?_);refine lT wG ?_;refine⟨(),?_,sS,sB⟩;rw[tk];intro y hy;rcases Bj.1 hy with hy|hy;exact E y hy;simp only[Ay,Eh,Eo]at hy;rw[hy];exact J
def Inv.H7u{C:Ctx}{S:Nat->Prop}{w:World}{β:Names}{b:Nat}{cs cs':List SV}(h:Inv C S w β bx)(hb:(b,Ax.cells cs)∈bx)(hr:∀vs,C7 S w β cs vs->C7 S w β cs' vs) :Inv C S w β ((b,.cells cs')::Cu b bx):=by
 have E:∀k c,(k,c)∈(b,Ax.cells cs')::Cu b bx->(k=b/\c=.cells cs')\/(k≠b/\(k,c)∈bx):=by intro k c hk;rcases Ay.1 hk with he|hk;simp only[Gg]at he;exact .inl he;exact .inr (Ev.1 hk)
 exact{ h with
  box:=λk c hk=>by
   rcases E k c hk with⟨rfl,rfl⟩|⟨_,hk⟩
   .obtain⟨O,ty,vs,h1,V,h3⟩:=h.box _ _ hb;exact⟨O,ty,vs,h1,V,hr vs h3⟩
   .exact h.box k c hk
  Bk:=λk c hk=>by
   rcases E k c hk with⟨rfl,rfl⟩|⟨_,hk⟩
   .exact h.Bk _ _ hb
   .exact h.Bk k c hk
  inj:=λk c L W hk I O h1 V=>by
   rcases E k c hk with⟨e1,e2⟩|⟨hn,hm⟩ <;> rcases E L W I with⟨e3,e4⟩|⟨a0,J⟩
   .rw[e1,e2,e3,e4];exact⟨rfl,rfl⟩
   .rw[e1]at h1;exact absurd (h.inj _ _ _ _ hb J O h1 V).1.symm a0
   .rw[e3]at V;exact absurd (h.inj _ _ _ _ hm hb O h1 V).1 hn
   .exact h.inj _ _ _ _ hm J O h1 V
  one:=λk Y st L Y' st' hk I=>by
   rcases E _ _ hk with⟨_,e2⟩|⟨_,hm⟩
   .cases e2
   .rcases E _ _ I with⟨_,e4⟩|⟨_,J⟩
    .cases e4
    .exact h.one _ _ _ _ _ _ hm J
  Gf:=λk Y st hk=>by
   rcases E _ _ hk with⟨_,e2⟩|⟨_,hm⟩
   .cases e2
   .have Z:∀L W,(L,W)∈(b,Ax.cells cs')::Cu b bx->∃y,(L,y)∈bx:=λL W I=>by
     rcases E _ _ I with⟨rfl,_⟩|⟨_,J⟩
     .exact⟨_,hb⟩
     .exact⟨_,J⟩
    obtain⟨h1,V,h3,h4,B,h5,h6⟩:=h.Gf k Y st hm;exact⟨h1,V,h3,λL W I=>(Z L W I).elim λy hy=>h4 L y hy,B,h5,λO U=>⟨(h6 O U).1,(h6 O U).2.1,(h6 O U).2.2.1,λL W I=>(Z L W I).elim λy hy=>(h6 O U).2.2.2 L y hy⟩⟩ }
def rA{ro:Option Nat}{P:Program}{Q:Exit->SL->Ac->Prop}{sl:SL}{c:Code}(k sz b i:Nat){cs:List SV}(hb:A9 bx b=some (.cells cs))(hi:cs[i]?=some (.d .nil))(J:b≠k)
  (h:A0 ro P n c Q (Y9 k sl) ((b,.cells ((cs.map (Nr k)).set i (.acc k)))::Cu b ((k,.rows sz [])::Hx k (Cu k bx))))(L:k<=999999:=by decide):A0 ro P n c Q sl bx:=by
 intro C S w β a hs;obtain⟨h1,W⟩:=hs.inv.Vj (k:=k) (w':=w) (c:=.rows sz []) { base:=none,sz:=sz } L (by simp) (λ_ _ _=>rfl) rfl rfl rfl (Bv _) (λ_=>nP);have E:(b,Ax.cells (cs.map (Nr k)))∈(k,Ax.rows sz [])::Hx k (Cu k bx):=by
  refine rN _ ?_;have:∀{l:Ac} {x:Ax},(b,x)∈l->(b,x.Tn k)∈Hx k l:=by
   intro l
   induction l with
   |nil=>intro x hx;simp at hx
   |cons p l V =>intro x hx;obtain⟨q,y⟩:=p;rcases Ay.1 hx with U|hx;simp only[Gg]at U;obtain⟨rfl,rfl⟩:=U;exact GG ..;exact rN _ (V hx)
  exact this (Ev.2 ⟨J,Ho hb⟩)
 have Z:=h1.H7u (cs':=(cs.map (Nr k)).set i (.acc k)) E (by
  intro vs hr;refine⟨by simpa using hr.1,?_⟩;intro j x v hx O;rw[BJ]at hx;split at hx
  .rename_i I;subst I;split at hx
   .simp only[B8]at hx;subst hx;have:=hr.2 i (.d .nil) v (by simp[hi,Nr,SV.has]) O;cases this with
    |d _ _ hq =>cases hq;have:=An.acc (S:=S) (w:=w) (β:=F4 β k { base:=none,sz:=sz }) k;rw[Ht]at this;exact this
   simp at hx
  exact hr.2 j x v hx O)
 refine h C S w _ a ⟨Z,hs.size,hs.defers,?_⟩;intro u;rw[KJ];exact(hs.slot u).Tn W
abbrev N8:=[0,1,2,3,6,7,8,9,10,20,29,33,53,67]
def yb(vars:List A3)(args:List Ty)(hC:∀(i:Nat)(u:Ty),args[i]?=some u->Ab prog 55 [Ba u,Cm [],Cv []] (Ba u)):∀t:Ty,t.Sm->Ab prog 55 [Ba t,Cm vars,Cv args] (Ba (t.subst vars args)):=by
 intro t
 induction t using Ty.induct with
 |h t ih =>
 intro a1;have a5:=a1.len;refine Ci.bd (Enters.of func55 rfl (by decide)) λa3=>?_;have hv:=(FE a3.2.1).1;have E:=W1 vars args t;refine cB func55 ?_;refine sR N8 ?_;refine kR N8 λK1 u1=>?_;have W:(t.args.length=0/\0<=Du t.name vars 0/\Du t.name vars 0<args.length)=False->∀sl bx,sle sl [(1,Cm vars),(2,Cv args),(3,.box 3 0),(6,.box 6 0)] ->ble bx [(3,.cells [.d (.str t.name),Cv t.args,A6 t.pos]),(6,.cells [.d (.str []),.d .nil,.d (.int .i64 0)])]->K1 sl bx:=by
  intro Z sl bx h1 h2;refine u1 _ _ (A0.ww h1 h2 ?_);rw[A5 (by rw[Z];exact id)]at E;refine sR N8 ?_;refine rA 67 3 9 1 rfl rfl (by decide)<|kR N8 λK1 u1=>?_;refine bA (A0.ii t.args (X:=Unit) (λj _=>[(1,Cm vars),(2,Cv args),(3,.box 3 0),(6,.box 6 0),(9,.box 9 0),(10,A6 j)]) (λj _=>[(3,.cells [.d (.str t.name),Cv t.args,A6 t.pos]),(6,.cells [.d (.str []),.d .nil,.d (.int .i64 0)]),(9,.cells [.d (.str t.name),.acc 67,A6 t.pos]),(67,.rows 3 (Au ((t.args.take j).map (Ty.subst vars args))))]) (λj _=>True) () trivial sS (by simp[ble,A9,Cq]) ?_ ?_)
  .intro _ _;rw[Ca];refine Ag B1 N8 λJ u2=>?_;refine sE ?_;refine u1 _ _<|sR N8 ?_;rw[E];exact aR
  .intro j _ d hd I dp tk V _;rw[tk];refine Ag V N8 λJ u2=>?_;refine gI u2 ?_;refine sK λJ u2=>bA ?_
   (refine lG N8 [] 11 [] λK z=>?_;refine ev ?_;refine ci (Fs hd) ?_;refine cc (ih d I (a1.arg d I)) ?_;refine⟨by simp,by simp only[B7,Dh];unfold lim sm at*;omega,?_⟩;(try refine ev ?_);apply z;try simp only[Aa,Af])
   apply u2
   (refine lV N8 λK z=>?_;refine cl ?_;apply z;try simp only[Aa,])
   exact⟨(),trivial,sS,by simp[ble,A9,Cq,Bf]⟩
 by_cases ha:t.args.length=0
 .have O:(t.args.length:Int)=0:=by omega
  refine bA (A0.ii vars (X:=Unit) (λj _=>[(1,Cm vars),(2,Cv args),(3,.box 3 0),(6,.box 6 0),(7,A6 j)]) (λ_ _=>[(3,.cells [.d (.str t.name),Cv t.args,A6 t.pos]),(6,.cells [.d (.str []),.d .nil,.d (.int .i64 0)])]) (λj _=>Du t.name (vars.drop j) j=Du t.name vars 0) () rfl sS sB ?_ ?_)
  .intro _ L;refine Ag B1 N8 λJ u2=>?_;refine sE ?_;rw[Dk,Du]at L;exact W (by rw[<-L];simp) _ _ sS sB
  .intro j _ d hd I dp tk V L;rw[dp,Du]at L;refine Dq V O N8 λJ u2=>?_;refine gI u2 ?_;refine sK λJ u2=>bA ?_
   (refine sG N8 [] 6 [] λK z=>?_;refine ev ?_;refine ci (Jj hd) ?_;apply z)
   refine A0.cond rfl (λZ=>?_) (λZ=>?_)
   .have hn:d=t.name:=by simpa using Z
    rw[A7 hn.symm]at L;rw[<-L]at E;have e0:(0:Int)<=(j:Int):=by omega
    refine kR N8 λK3 u3=>?_;refine pA rfl u3 (λU=>?_) (λU=>?_)
    .have a4:¬(j:Int)<(args.length:Int):=by
      have:=U;simp only[Di]at this;omega
     rw[A5 (λh=>a4 h.2.2),XC ha]at E;refine sR N8 ?_;rw[E,show t.args=[] from XC ha];exact aR
    have a0:(j:Int)<(args.length:Int):=by have:=U;simp only[lC]at this;omega
    rw[A7 ⟨ha,e0,a0⟩]at E;have hx:args[j]?=some args[j]:=Bu (by omega);rw[Ic,hx,Dx]at E;generalize args[j]=u at*
    (refine sV N8 λK z=>?_;refine ci (Fs hx) ?_;refine cc (hC _ u hx) ?_;apply z)
    refine sR N8 ?_;refine sR N8 ?_;rw[E];exact aR
   .have hn:¬d=t.name:=by simpa using Z
    rw[A5 (λh=>hn h.symm)]at L;refine cA (u2 _ _ ?_)
    (refine lV N8 λK z=>?_;refine cl ?_;apply z;try simp only[Aa,])
    exact⟨(),L,sS,sB⟩
 .have O:¬(t.args.length:Int)=0:=by omega
  have a2:(t.args.length=0/\0<=Du t.name vars 0/\Du t.name vars 0<args.length)=False:=by simp[ha]
  refine bA (A0.ii ([]:List Nat) (X:=Unit) (λj _=>[(1,Cm vars),(2,Cv args),(3,.box 3 0),(6,.box 6 0),(7,A6 0)]) (λ_ _=>[(3,.cells [.d (.str t.name),Cv t.args,A6 t.pos]),(6,.cells [.d (.str []),.d .nil,.d (.int .i64 0)])]) (λj _=>True) () trivial sS sB ?_ ?_)
  .intro _ _;refine sK λJ u2=>?_;by_cases he:(0:Int)<(vars.length:Int)
   .refine Ee O he N8 ?_;refine sE ?_;exact W a2 _ _ sS sB
   .refine Ak he N8 ?_;refine sE ?_;exact W a2 _ _ sS sB
  .intro j _ d hd;simp at hd
def H7v(t:Ty)(h:t.Sm):Ab prog 55 [Ba t,Cm [],Cv []] (Ba t):=by have:=yb [] [] (by simp) t h;rw[Rn]at this;exact this
def Qw(vars:List A3)(args:List Ty)(E:∀u,u∈args->u.Sm)(t:Ty)(h:t.Sm):Ab prog 55 [Ba t,Cm vars,Cv args] (Ba (t.subst vars args)) :=yb vars args (λi u I=>H7v u (E u (Bs I))) t h
abbrev aE:=[0,1,2,6,7,8,12]
def H1o(vars:List A3)(args:List Ty)(L:∀u,u∈args->u.Sm)(l:List Ty)(U:l.length<=sm)(hs:∀t,t∈l->t.Sm) :Ab prog 139 [Cv l,Cm vars,Cv args] (Cv (l.map (Ty.subst vars args))):=by
 refine cB func139 ?_;refine sR aE ?_;refine sR aE ?_;refine A0.pp 7 3 7 rfl<|kR aE λV u1=>?_;refine bA (A0.ii l (X:=Unit) (λj _=>[(0,Cv l),(1,Cm vars),(2,Cv args),(7,.acc 7),(8,A6 j)]) (λj _=>[(7,.rows 3 (Au ((l.take j).map (Ty.subst vars args))))]) (λj _=>True) () trivial sS (by simp[ble,A9,Cq]) ?_ ?_)
 intro _ O;rw[Ca];refine Ag B1 aE λI u2=>?_;refine sE ?_;refine u1 _ _<|sR aE ?_;exact aR
 intro j _ d hd E W tk J O;rw[tk];refine Ag J aE λI u2=>?_;refine gI u2 ?_;refine sK λI u2=>bA ?_;(refine lV aE λK z=>?_;refine ci (Fs hd) ?_;refine cc (Qw vars args L d (hs d E)) ?_;refine⟨by simp,by simp only[B7,Dh];unfold lim sm at*;omega,?_⟩;(try refine ev ?_);apply z;try simp only[Aa,Af]);apply u2;refine lT aE ?_;exact⟨(),trivial,sS,by simp[ble,A9,Cq,Bf]⟩
end Go.iA
