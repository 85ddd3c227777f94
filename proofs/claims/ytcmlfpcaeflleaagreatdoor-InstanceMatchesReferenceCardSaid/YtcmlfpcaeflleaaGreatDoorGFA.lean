/- several texts in one -/
import Derived.Test.YtcmlfpcaeflleaaGreatDoorGEV
set_option linter.all false
set_option maxHeartbeats 1000000
set_option maxRecDepth 100000
namespace Go.Abs
open Go Go.Proofs Tryz
mutual
def Ty.count:Ty->Int->Int
 |.mk n a _,k=>Ty.Cj a (k+1+((n.length / 50:Nat):Int))
def Ty.Cj:List Ty->Int->Int
 |[],k=>k
 |t::ts,k=>if k<=2000 then Ty.Cj ts (t.count k)else k
end
def Ty.count_eq(t:Ty)(k:Int):t.count k=Ty.Cj t.args (k+1+((t.name.length / 50:Nat):Int)):=by cases t;rfl
def cap:Int:=4611686018427387904
mutual
theorem Ty.K8:∀(t:Ty)(k:Int),t.Ok->k<=t.count k/\t.count k<=max k 2000+2814749767107
 |.mk n a p,k,h=>by have E:n.length<=lim:=h.name;have:=Ty.A5x a (k+1+((n.length / 50:Nat):Int)) (λt ht=>h.arg t ht);simp only[Ty.count];unfold lim at E;omega
theorem Ty.A5x:∀(l:List Ty)(k:Int),(∀t,t∈l->t.Ok)->k<=Ty.Cj l k/\Ty.Cj l k<=max k (2000+2814749767107)
 |[],k,_=>by simp only[Ty.Cj];omega
 |t::ts,k,h=>by
  simp only[Ty.Cj];split
  .have L:=Ty.K8 t k (h t (by simp));have J:=Ty.A5x ts (t.count k) (λu I=>h u (by simp[I]));omega
  .omega
end
abbrev q1z:List Nat:=[0,1,2,4,5,21]
def Zt:∀(t:Ty)(n:Int),0<=n->n<=cap->Ac prog 41 [B6 t,A8 n] (A8 (t.count n)):=by
 intro t
 induction t using Ty.induct with
 |h t ih =>
 intro n h0 h1;refine Bj.bd (Enters.of func41 rfl (by decide)) λa0=>?_;have M:=E6r a0.1;have O:=M.name;have V:=M.len;have hq:t.name.length / 50<=2814749767106:=by unfold lim at O;omega
 refine cB func41 ?_;refine sR q1z ?_
 (refine sQ q1z λK L=>?_;refine ev ?_)
 refine⟨by unfold Az cap at*;omega,(by first| (unfold Az;omega)| (simp only[Az,sm,lim]at*;omega)),by unfold Az cap at*;omega,?_⟩
 (apply L;clear L K)
 refine kR q1z λK1 u1=>?_;refine A0.bb (A0.loop (X:=Nat × Int) (λx=>[(1,A8 x.2),(2,.box 2 0),(5,A8 x.1)]) (λ_=>[(2,.cells [.d (.str t.name),.d (.slice (Au t.args)),.d (.int .i64 t.pos)])])
  (λx=>x.1<=t.args.length/\0<=x.2/\x.2<=cap+2814749769108/\Ty.Cj (t.args.drop x.1) x.2=t.count n) (λx=>t.args.length - x.1) (0,n+1+((t.name.length / 50:Nat):Int)) ?_ ?_ ?_ ?_)
 .exact⟨by simp,by omega,by unfold cap at*;omega,by rw[Ty.count_eq];rfl⟩
 .simp[sle,Ax,Ag]
 .simp[ble,A7]
 rintro⟨i,m⟩ ⟨hi,Z,a1,E⟩;simp only at hi Z a1 E;have W:∀z:Int,z=t.count n->K1 [(0,.undef),(1,A8 z),(2,.box 2 0),(4,.undef),(5,A8 i),(21,Ay false)] [(2,.cells [.d (.str t.name),.d (.slice (Au t.args)),.d (.int .i64 t.pos)])]:=by rintro z rfl;refine u1 _ _<|sR q1z ?_;exact aR
 by_cases U:(i:Int)<(t.args.length:Int)
 .have I:i<t.args.length:=by omega
  have hx:t.args[i]?=some t.args[i]:=B8 I;have J:t.args[i]∈t.args:=Fa I;have dp:t.args.drop i=t.args[i]::t.args.drop (i+1):=Ge I;generalize t.args[i]=x at*;rw[dp,Ty.Cj]at E;refine sK λK2 u2=>?_;by_cases hm:m<=2000
  .rw[A9 hm]at E;refine Fi U hm q1z ?_;refine A0.tt rfl (A0.kk (u2 _ _ ?_));clear u2 K2;refine sK λK2 u2=>A0.bb ?_
   (refine lQ q1z λK L=>?_;refine ev ?_)
   refine⟨by omega,Be x,Dv hx,rfl,?_⟩;simp -implicitDefEqProofs only[EV,Nat.reduceAdd,Nat.reduceEqDiff,reduceCtorEq,Be];refine⟨A8 (x.count m),.inl ⟨_,rfl,ih x J m Z (by unfold cap;omega),rfl⟩,?_⟩;refine ev ?_
   (apply L;clear L K;try simp only[A4,Ab])
   refine u2 _ _ ?_;clear u2 K2
   (refine lQ q1z λK L=>?_;refine ev ?_)
   refine⟨by unfold Az;unfold lim at V;omega,?_⟩
   (apply L;clear L K;try simp only[A4,])
   have hb:=Ty.K8 x m (M.arg x J);exact⟨(i+1,x.count m),⟨by simp only;omega,by simp only;omega,by simp only;unfold cap;omega,E⟩,by simp only;omega,by simp[sle,Ax,Ag],by simp[ble,A7]⟩
  .rw[A6 hm]at E;refine Fi U hm q1z ?_;refine A0.ff rfl (A0.xx ?_);simp only[A4,Ab,Ae];exact W m E
 .refine Ai U q1z λK2 u2=>?_;refine A0.ff rfl (A0.xx ?_);simp only[A4,Ab,Ae];rw[Jf (by omega),Ty.Cj]at E;exact W m E
def Rp{n:Nat}(h:n<=lim):n / 50<=2814749767106:=by unfold lim at h;omega
mutual
def Ex.count:Ex->Int->Int
 |.mk _ I t E ks _,n=>Ex.Cj ks (Ty.Cj E (t.count (n+((I.length / 50:Nat):Int))))
def Ex.Cj:List Ex->Int->Int
 |[],n=>n
 |e::es,n=>if n<=2000 then Ex.Cj es (e.count n)else n
end
def Ex.count_eq(e:Ex)(n:Int):e.count n=Ex.Cj e.kids (Ty.Cj e.targs (e.type.count (n+((e.name.length / 50:Nat):Int)))):=by cases e;rfl
mutual
theorem Ex.K8:∀(e:Ex)(n:Int),e.Ok->n<=e.count n/\e.count n<=max n 2000+6000000000000
 |.mk k E t I ks p,n,h=>by
  have J:=Rp h.name;have L:=Ty.K8 t (n+((E.length / 50:Nat):Int)) h.type;have W:=Ty.A5x I (t.count (n+((E.length / 50:Nat):Int))) h.targs.2;have V:=Ex.A5x ks (Ty.Cj I (t.count (n+((E.length / 50:Nat):Int)))) h.kids.2;have M:((E.length / 50:Nat):Int)<=2814749767106:=by simp only[Ex.name]at J;omega
  simp only[Ex.count];have U:0<=((E.length / 50:Nat):Int):=by omega
  generalize((E.length / 50:Nat):Int)=q at*;omega
theorem Ex.A5x:∀(l:List Ex)(n:Int),(∀t,t∈l->t.Ok)->n<=Ex.Cj l n/\Ex.Cj l n<=max n (2000+6000000000000)
 |[],n,_=>by simp only[Ex.Cj];omega
 |t::ts,n,h=>by
  simp only[Ex.Cj];split
  .have J:=Ex.K8 t n (h t (by simp));have L:=Ex.A5x ts (t.count n) (λu O=>h u (by simp[O]));omega
  .omega
end
abbrev Rq:List Nat:=[0,1,2,4,5,6,24,42]
def D7t:∀(e:Ex)(n:Int),0<=n->n<=cap - 100000000000000->Ac prog 107 [D0 e,A8 n] (A8 (e.count n)):=by
 intro e
 induction e using Ex.induct with
 |h e ih =>
 intro n h0 h1;refine Bj.bd (Enters.of func107 rfl (by decide)) λa2=>?_;have J:=C6e a2.1;have hq:=Rp J.name;have ht:=Ty.K8 e.type (n+((e.name.length / 50:Nat):Int)) J.type;have a4:=Ty.A5x e.targs (e.type.count (n+((e.name.length / 50:Nat):Int))) J.targs.2;have a5:=J.targs.1;have a3:=J.kids.1;have a1:=Ex.count_eq e n;refine cB func107 ?_;refine sR Rq ?_
 (refine sQ Rq λK O=>?_;refine ev ?_)
 refine⟨(by first| (unfold Az;omega)| (simp only[Az,sm,lim]at*;omega)),by unfold Az cap at*;omega,A8 (e.type.count (n+((e.name.length / 50:Nat):Int))),.inl ⟨_,rfl,Zt e.type _ (by omega) (by unfold cap at*;omega),rfl⟩,?_⟩;refine ev ?_
 (apply O;clear O K)
 generalize e.type.count (n+((e.name.length / 50:Nat):Int))=n1 at*;refine sK λK1 u1=>?_;have U:∀sl bx,sle sl [(1,A8 (Ty.Cj e.targs n1)),(2,.box 2 0)]->ble bx [(2,.cells ((Bu e).map .d))]->K1 sl bx:=by
  intro sl bx h1 h2;refine u1 _ _ (A0.ww h1 h2 ?_);clear u1 K1;generalize Ty.Cj e.targs n1=n2 at*;refine kR Rq λK1 u1=>?_;have U:∀sl bx,sle sl [(1,A8 (Ex.Cj e.kids n2))]->ble bx []->K1 sl bx:=by intro sl bx h1 h2;refine u1 _ _ (A0.ww h1 h2 ?_);refine sR Rq ?_;rw[a1];exact aR
  refine A0.bb (A0.loop (X:=Nat × Int) (λx=>[(1,A8 x.2),(6,A8 x.1),(2,.box 2 0)]) (λ_=>[(2,.cells ((Bu e).map .d))])
   (λx=>x.1<=e.kids.length/\0<=x.2/\x.2<=cap+100000000000000/\Ex.Cj (e.kids.drop x.1) x.2=Ex.Cj e.kids n2) (λx=>e.kids.length - x.1) (0,n2) ?_ ?_ ?_ ?_)
  .exact⟨by simp,by omega,by unfold cap at*;omega,by first|rfl|simp⟩
  .simp[sle,Ax,Ag]
  .exact(by simp[ble,A7,Bu,])
  rintro⟨i,m⟩ ⟨hi,V,a0,E⟩;simp only at hi V a0 E;by_cases L:(i:Int)<(e.kids.length:Int)
  .have I:i<e.kids.length:=by omega
   have hx:e.kids[i]?=some e.kids[i]:=B8 I;have M:e.kids[i]∈e.kids:=Fa I;have dp:e.kids.drop i=e.kids[i]::e.kids.drop (i+1):=Ge I;generalize e.kids[i]=x at*;rw[dp,Ex.Cj]at E;refine sK λZ u2=>?_;by_cases W:m<=2000
   .rw[A9 W]at E;refine Fi L W Rq ?_;refine A0.tt rfl (A0.kk (u2 _ _ ?_));clear u2 Z;refine sK λZ u2=>A0.bb ?_
    (refine lQ Rq λK O=>?_;refine ev ?_)
    (refine⟨by omega,Bu x,Dn hx,rfl,?_⟩;refine ev ?_;refine⟨A8 (x.count m),.inl ⟨_,rfl,ih x M m V (by unfold cap;omega),rfl⟩,?_⟩;refine ev ?_)
    (apply O;clear O K;try simp only[A4,Ab])
    refine u2 _ _ ?_;clear u2 Z
    (refine lQ Rq λK O=>?_;refine ev ?_)
    refine⟨by unfold Az;unfold lim at*;omega,?_⟩
    (apply O;clear O K;try simp only[A4,])
    have hb:=Ex.K8 x m (J.kids.2 x M);exact⟨(i+1,x.count m),⟨by simp only;omega,by simp only;omega,by simp only;unfold cap;omega,E⟩,by simp only;omega,by simp[sle,Ax,Ag],(by simp[ble,A7,Bu,])⟩
   .rw[A6 W]at E;refine Fi L W Rq ?_;refine A0.ff rfl (A0.xx ?_);simp only[A4,Ab,Ae];exact U _ _ (by simp[sle,Ax,Ag,E]) sB
  .refine Ai L Rq λZ u2=>?_;refine A0.ff rfl (A0.xx ?_);simp only[A4,Ab,Ae];rw[Jf (by omega),Ex.Cj]at E;exact U _ _ (by simp[sle,Ax,Ag,E]) sB
 refine sR Rq ?_;refine A0.bb (A0.loop (X:=Nat × Int) (λx=>[(1,A8 x.2),(5,A8 x.1),(2,.box 2 0)]) (λ_=>[(2,.cells ((Bu e).map .d))])
  (λx=>x.1<=e.targs.length/\0<=x.2/\x.2<=cap+100000000000000/\Ty.Cj (e.targs.drop x.1) x.2=Ty.Cj e.targs n1) (λx=>e.targs.length - x.1) (0,n1) ?_ ?_ ?_ ?_)
 .exact⟨by simp,by omega,by unfold cap at*;omega,by first|rfl|simp⟩
 .simp[sle,Ax,Ag]
 .exact(by simp[ble,A7,Bu,])
 rintro⟨i,m⟩ ⟨hi,V,a0,E⟩;simp only at hi V a0 E;by_cases L:(i:Int)<(e.targs.length:Int)
 .have I:i<e.targs.length:=by omega
  have hx:e.targs[i]?=some e.targs[i]:=B8 I;have M:e.targs[i]∈e.targs:=Fa I;have dp:e.targs.drop i=e.targs[i]::e.targs.drop (i+1):=Ge I;generalize e.targs[i]=x at*;rw[dp,Ty.Cj]at E;refine sK λZ u2=>?_;by_cases W:m<=2000
  .rw[A9 W]at E;refine Fi L W Rq ?_;refine A0.tt rfl (A0.kk (u2 _ _ ?_));clear u2 Z;refine sK λZ u2=>A0.bb ?_
   (refine lQ Rq λK O=>?_;refine ev ?_)
   (refine⟨by omega,Be x,Dv hx,rfl,?_⟩;refine ev ?_;refine⟨A8 (x.count m),.inl ⟨_,rfl,Zt x m V (by unfold cap;omega),rfl⟩,?_⟩;refine ev ?_)
   (apply O;clear O K;try simp only[A4,Ab])
   refine u2 _ _ ?_;clear u2 Z
   (refine lQ Rq λK O=>?_;refine ev ?_)
   refine⟨by unfold Az;unfold lim at*;omega,?_⟩
   (apply O;clear O K;try simp only[A4,])
   have hb:=Ty.K8 x m (J.targs.2 x M);exact⟨(i+1,x.count m),⟨by simp only;omega,by simp only;omega,by simp only;unfold cap;omega,E⟩,by simp only;omega,by simp[sle,Ax,Ag],(by simp[ble,A7,Bu,])⟩
  .rw[A6 W]at E;refine Fi L W Rq ?_;refine A0.ff rfl (A0.xx ?_);simp only[A4,Ab,Ae];exact U _ _ (by simp[sle,Ax,Ag,E]) (by simp[ble,A7,Bu,])
 .refine Ai L Rq λZ u2=>?_;refine A0.ff rfl (A0.xx ?_);simp only[A4,Ab,Ae];rw[Jf (by omega),Ty.Cj]at E;exact U _ _ (by simp[sle,Ax,Ag,E]) (by simp[ble,A7,Bu,])
def C8:List Am->Int->Int
 |[],n=>n
 |f::fs,n=>if n<=2000 then C8 fs (f.bound.count (n+1+((f.name.length / 50:Nat):Int)))else n
def D6:List Param->Int->Int
 |[],n=>n
 |f::fs,n=>if n<=2000 then D6 fs (f.type.count (n+1+((f.name.length / 50:Nat):Int)))else n
def D9z(f:Am)(n:Int)(h:f.Ok):n<=f.bound.count (n+1+((f.name.length / 50:Nat):Int))/\f.bound.count (n+1+((f.name.length / 50:Nat):Int))<=max n 2000+6000000000000:=by have I:=Rp h.name;have E:=Ty.K8 f.bound (n+1+((f.name.length / 50:Nat):Int)) h.bound;omega
def D2t(f:Param)(n:Int)(h:f.Ok):n<=f.type.count (n+1+((f.name.length / 50:Nat):Int))/\f.type.count (n+1+((f.name.length / 50:Nat):Int))<=max n 2000+6000000000000:=by have I:=Rp h.name;have E:=Ty.K8 f.type (n+1+((f.name.length / 50:Nat):Int)) h.type;omega
def B5i:∀(l:List Am)(n:Int),(∀t,t∈l->t.Ok)->n<=C8 l n/\C8 l n<=max n (2000+6000000000000)
 |[],n,_=>by simp only[C8];omega
 |t::ts,n,h=>by
  simp only[C8];split
  .have J:=D9z t n (h t (by simp));have I:=B5i ts (t.bound.count (n+1+((t.name.length / 50:Nat):Int))) (λu E=>h u (by simp[E]));omega
  .omega
def B5m:∀(l:List Param)(n:Int),(∀t,t∈l->t.Ok)->n<=D6 l n/\D6 l n<=max n (2000+6000000000000)
 |[],n,_=>by simp only[D6];omega
 |t::ts,n,h=>by
  simp only[D6];split
  .have J:=D2t t n (h t (by simp));have I:=B5m ts (t.type.count (n+1+((t.name.length / 50:Nat):Int))) (λu E=>h u (by simp[E]));omega
  .omega
abbrev q3z:List Nat:=[0,1,4,5,13]
def E3h(l:List Am)(n:Int)(h0:0<=n)(h1:n<=cap - 100000000000000):Ac prog 109 [.d (.slice (Ar l)),A8 n] (A8 (C8 l n)):=by
 refine Bj.bd (Enters.of func109 rfl (by decide)) λa0=>?_;have L:=B4b a0.1;have hl:=L.1;refine cB func109 ?_;refine sR q3z<|sK λK1 u1=>?_;have O:∀sl bx,sle sl [(1,A8 (C8 l n))]->ble bx []->K1 sl bx:=by intro sl bx h1 h2;refine u1 _ _ (A0.ww h1 h2 ?_);clear u1 K1;refine sR q3z ?_;exact aR
 refine sR q3z ?_;refine A0.bb (A0.loop (X:=Nat × Int) (λx=>[(1,A8 x.2),(5,A8 x.1),(0,.d (.slice (Ar l)))]) (λ_=>[])
  (λx=>x.1<=l.length/\0<=x.2/\x.2<=cap+100000000000000/\C8 (l.drop x.1) x.2=C8 l n) (λx=>l.length - x.1) (0,n) ?_ ?_ ?_ ?_)
 .exact⟨by simp,by omega,by unfold cap at*;omega,by first|rfl|simp⟩
 .simp[sle,Ax,Ag]
 .exact sB
 rintro⟨i,m⟩ ⟨hi,Z,a1,E⟩;simp only at hi Z a1 E;by_cases M:(i:Int)<(l.length:Int)
 .have I:i<l.length:=by omega
  have hx:l[i]?=some l[i]:=B8 I;have J:l[i]∈l:=Fa I;have dp:l.drop i=l[i]::l.drop (i+1):=Ge I;generalize l[i]=x at*;rw[dp,C8]at E;refine sK λW u2=>?_;by_cases V:m<=2000
  .rw[A9 V]at E;refine Fi M V q3z ?_;refine A0.tt rfl (A0.kk (u2 _ _ ?_));clear u2 W;refine sK λW u2=>A0.bb ?_
   (refine lG q3z [] 15 [] λK U=>?_;simp -implicitDefEqProofs only[EV,Nat.reduceAdd,Nat.reduceEqDiff,reduceCtorEq,I3,B1j,E5e])
   (have hq:=Rp (L.2 x J).name;refine⟨by omega,Jy x,F5 hx,rfl,?_⟩;refine ev ?_;refine⟨by unfold Az cap at*;omega,by omega,Jy x,F5 hx,rfl,?_⟩;refine ev ?_;refine⟨(by first| (unfold Az;omega)| (simp only[Az,sm,lim]at*;omega)),by unfold Az cap at*;omega,A8 (x.bound.count (m+1+((x.name.length / 50:Nat):Int))),.inl ⟨_,rfl,Zt _ _ (by omega) (by unfold cap at*;omega),rfl⟩,?_⟩;refine ev ?_)
   (apply U;clear U K;try simp only[A4,Ab])
   refine u2 _ _ ?_;clear u2 W
   (refine lQ q3z λK U=>?_;refine ev ?_)
   refine⟨by unfold Az;unfold lim at*;omega,?_⟩
   (apply U;clear U K;try simp only[A4,])
   have hb:=D9z x m (L.2 x J);exact⟨(i+1,x.bound.count (m+1+((x.name.length / 50:Nat):Int))),⟨by simp only;omega,by simp only;omega,by simp only;unfold cap;omega,E⟩,by simp only;omega,by simp[sle,Ax,Ag],sB⟩
  .rw[A6 V]at E;refine Fi M V q3z ?_;refine A0.ff rfl (A0.xx ?_);simp only[A4,Ab,Ae];exact O _ _ (by simp[sle,Ax,Ag,E]) sB
 .refine Ai M q3z λW u2=>?_;refine A0.ff rfl (A0.xx ?_);simp only[A4,Ab,Ae];rw[Jf (by omega),C8]at E;exact O _ _ (by simp[sle,Ax,Ag,E]) sB
abbrev q4z:List Nat:=[0,1,4,5,13]
def E0u(l:List Param)(n:Int)(h0:0<=n)(h1:n<=cap - 100000000000000):Ac prog 108 [.d (.slice (B9 l)),A8 n] (A8 (D6 l n)):=by
 refine Bj.bd (Enters.of func108 rfl (by decide)) λa0=>?_;have L:=B3a a0.1;have hl:=L.1;refine cB func108 ?_;refine sR q4z<|sK λK1 u1=>?_;have O:∀sl bx,sle sl [(1,A8 (D6 l n))]->ble bx []->K1 sl bx:=by intro sl bx h1 h2;refine u1 _ _ (A0.ww h1 h2 ?_);clear u1 K1;refine sR q4z ?_;exact aR
 refine sR q4z ?_;refine A0.bb (A0.loop (X:=Nat × Int) (λx=>[(1,A8 x.2),(5,A8 x.1),(0,.d (.slice (B9 l)))]) (λ_=>[])
  (λx=>x.1<=l.length/\0<=x.2/\x.2<=cap+100000000000000/\D6 (l.drop x.1) x.2=D6 l n) (λx=>l.length - x.1) (0,n) ?_ ?_ ?_ ?_)
 .exact⟨by simp,by omega,by unfold cap at*;omega,by first|rfl|simp⟩
 .simp[sle,Ax,Ag]
 .exact sB
 rintro⟨i,m⟩ ⟨hi,Z,a1,E⟩;simp only at hi Z a1 E;by_cases M:(i:Int)<(l.length:Int)
 .have I:i<l.length:=by omega
  have hx:l[i]?=some l[i]:=B8 I;have J:l[i]∈l:=Fa I;have dp:l.drop i=l[i]::l.drop (i+1):=Ge I;generalize l[i]=x at*;rw[dp,D6]at E;refine sK λW u2=>?_;by_cases V:m<=2000
  .rw[A9 V]at E;refine Fi M V q4z ?_;refine A0.tt rfl (A0.kk (u2 _ _ ?_));clear u2 W;refine sK λW u2=>A0.bb ?_
   (refine lG q4z [] 15 [] λK U=>?_;simp -implicitDefEqProofs only[EV,Nat.reduceAdd,Nat.reduceEqDiff,reduceCtorEq,I3,Vi,C8u])
   (have hq:=Rp (L.2 x J).name;refine⟨by omega,Ha x,E9 hx,rfl,?_⟩;refine ev ?_;refine⟨by unfold Az cap at*;omega,by omega,Ha x,E9 hx,rfl,?_⟩;refine ev ?_;refine⟨(by first| (unfold Az;omega)| (simp only[Az,sm,lim]at*;omega)),by unfold Az cap at*;omega,A8 (x.type.count (m+1+((x.name.length / 50:Nat):Int))),.inl ⟨_,rfl,Zt _ _ (by omega) (by unfold cap at*;omega),rfl⟩,?_⟩;refine ev ?_)
   (apply U;clear U K;try simp only[A4,Ab])
   refine u2 _ _ ?_;clear u2 W
   (refine lQ q4z λK U=>?_;refine ev ?_)
   refine⟨by unfold Az;unfold lim at*;omega,?_⟩
   (apply U;clear U K;try simp only[A4,])
   have hb:=D2t x m (L.2 x J);exact⟨(i+1,x.type.count (m+1+((x.name.length / 50:Nat):Int))),⟨by simp only;omega,by simp only;omega,by simp only;unfold cap;omega,E⟩,by simp only;omega,by simp[sle,Ax,Ag],sB⟩
  .rw[A6 V]at E;refine Fi M V q4z ?_;refine A0.ff rfl (A0.xx ?_);simp only[A4,Ab,Ae];exact O _ _ (by simp[sle,Ax,Ag,E]) sB
 .refine Ai M q4z λW u2=>?_;refine A0.ff rfl (A0.xx ?_);simp only[A4,Ab,Ae];rw[Jf (by omega),D6]at E;exact O _ _ (by simp[sle,Ax,Ag,E]) sB
def A5.count(s:A5)(n:Int):Int:=s.result.count (D6 s.params (C8 s.A1 (n+((s.name.length / 50:Nat):Int))))
def A5.K8(s:A5)(n:Int)(h:s.Ok):n<=s.count n/\s.count n<=max n 2000+10000000000000:=by have J:=Rp h.name;have E:=B5i s.A1 (n+((s.name.length / 50:Nat):Int)) h.A1.2;have L:=B5m s.params (C8 s.A1 (n+((s.name.length / 50:Nat):Int))) h.params.2;have I:=Ty.K8 s.result (D6 s.params (C8 s.A1 (n+((s.name.length / 50:Nat):Int)))) h.result;unfold A5.count;omega
def D9x(s:A5)(n:Int)(J:0<=n)(L:n<=cap - 200000000000000):Ac prog 110 [Ea s,A8 n] (A8 (s.count n)):=by
 refine Bj.bd (Enters.of func110 rfl (by decide)) λE=>?_;have h:=F6i E.1;have U:=Rp h.name;have O:=B5i s.A1 (n+((s.name.length / 50:Nat):Int)) h.A1.2;have M:=B5m s.params (C8 s.A1 (n+((s.name.length / 50:Nat):Int))) h.params.2;refine cB func110 ?_;refine sR [0,1,2,4] ?_
 (refine sG [0,1,2,4] [] 14 [] λK I=>?_;refine ev ?_)
 refine⟨(by first| (unfold Az;omega)| (simp only[Az,sm,lim]at*;omega)),by unfold Az cap at*;omega,A8 (C8 s.A1 (n+((s.name.length / 50:Nat):Int))),.inl ⟨_,rfl,E3h _ _ (by omega) (by unfold cap at*;omega),rfl⟩,?_⟩;refine ev ?_;refine⟨A8 (D6 s.params (C8 s.A1 (n+((s.name.length / 50:Nat):Int)))),.inl ⟨_,rfl,E0u _ _ (by omega) (by unfold cap at*;omega),rfl⟩,?_⟩;refine ev ?_;refine⟨A8 (s.count n),.inl ⟨_,rfl,Zt _ _ (by omega) (by unfold cap at*;omega),rfl⟩,?_⟩;refine ev ?_
 (apply I;clear I K)
 exact aR
def Jc:List A3->Int->Int
 |[],n=>n
 |v::vs,n=>if n<=2000 then Jc vs (n+1+((v.length / 50:Nat):Int))else n
def Ec:List A5->Int->Int
 |[],n=>n
 |s::ss,n=>if n<=2000 then Ec ss (s.count n)else n
def Decl.Ta(d:Decl)(n:Int):Int:=if n<=2000 then d.body.count (d.sig.count n)else n
def Decl.count(d:Decl)(n:Int):Int :=
 d.Ta (Jc d.vars (Ec d.sigs (D6 d.fields (C8 d.A1 (n+1+((d.name.length / 50:Nat):Int)+((d.recv.length / 50:Nat):Int))))))
def Im:List Decl->Int->Int
 |[],n=>n
 |d::ds,n=>if n<=2000 then Im ds (d.count n)else n
def Prog.count(p:Prog):Int:=Im p.decls (p.main.count 0)
def C3t:∀(l:List A3)(n:Int),(∀t,t∈l->t.length<=lim)->n<=Jc l n/\Jc l n<=max n (2000+6000000000000)
 |[],n,_=>by simp only[Jc];omega
 |t::ts,n,h=>by
  simp only[Jc];split
  .have J:=Rp (h t (by simp));have I:=C3t ts (n+1+((t.length / 50:Nat):Int)) (λu E=>h u (by simp[E]));omega
  .omega
def C4w:∀(l:List A5)(n:Int),(∀t,t∈l->t.Ok)->n<=Ec l n/\Ec l n<=max n (2000+10000000000000)
 |[],n,_=>by simp only[Ec];omega
 |t::ts,n,h=>by
  simp only[Ec];split
  .have J:=A5.K8 t n (h t (by simp));have I:=C4w ts (t.count n) (λu E=>h u (by simp[E]));omega
  .omega
def Decl.E8t(d:Decl)(n:Int)(h:d.Ok):n<=d.Ta n/\d.Ta n<=max n (2000+20000000000000):=by have I:=A5.K8 d.sig n h.sig;have E:=Ex.K8 d.body (d.sig.count n) h.body;unfold Decl.Ta;split <;> omega
def Decl.K8(d:Decl)(n:Int)(h:d.Ok):n<=d.count n/\d.count n<=max n 2000+30000000000000:=by have I:=Rp h.name;have M:=Rp h.recv;unfold Decl.count;generalize O:n+1+((d.name.length / 50:Nat):Int)+((d.recv.length / 50:Nat):Int)=n0;have L:=B5i d.A1 n0 h.A1.2;have E:=B5m d.fields (C8 d.A1 n0) h.fields.2;have U:=C4w d.sigs (D6 d.fields (C8 d.A1 n0)) h.sigs.2;have V:=C3t d.vars (Ec d.sigs (D6 d.fields (C8 d.A1 n0))) h.vars.2;have J:=Decl.E8t d (Jc d.vars (Ec d.sigs (D6 d.fields (C8 d.A1 n0)))) h;omega
abbrev K9:List Nat:=[0,1,2,3,4,5,6,7,19,53,71,85]
set_option maxHeartbeats 2000000 in
def G3r(p:Prog):Ac prog 65 [D7 p] (A8 p.count):=by
 refine Bj.bd (Enters.of func65 rfl (by decide)) λa8=>?_;have a3:=B3s a8.1;have he:=Ex.K8 p.main 0 a3.main;have hl:=a3.decls.1;have a2:p.count=Im p.decls (p.main.count 0):=rfl;refine cB func65 ?_;refine sR K9 ?_
 (refine sQ K9 λK L=>?_;refine ev ?_)
 refine⟨A8 (p.main.count 0),.inl ⟨_,rfl,D7t _ 0 (by omega) (by unfold cap;omega),rfl⟩,?_⟩;refine ev ?_
 (apply L;clear L K)
 generalize p.main.count 0=n1 at*;refine sK λK1 u1=>?_;have M:∀sl bx,sle sl [(3,A8 (Im p.decls n1))]->ble bx []->K1 sl bx:=by intro sl bx h1 h2;refine u1 _ _ (A0.ww h1 h2 ?_);clear u1 K1;refine sR K9 ?_;rw[a2];exact aR
 refine sR K9 ?_;refine A0.bb (A0.loop (X:=Nat × Int) (λx=>[(3,A8 x.2),(4,A8 x.1),(1,.box 1 0)]) (λ_=>[(1,.cells ((An p).map .d))])
  (λx=>x.1<=p.decls.length/\0<=x.2/\x.2<=100000000000000/\Im (p.decls.drop x.1) x.2=Im p.decls n1) (λx=>p.decls.length - x.1) (0,n1) ?_ ?_ ?_ ?_)
 .exact⟨by simp,by omega,by omega,by first|rfl|simp⟩
 .exact sS
 .exact(by simp[ble,A7,An])
 rintro⟨j,k⟩ ⟨hj,a6,a7,E⟩;simp only at hj a6 a7 E;by_cases U:(j:Int)<(p.decls.length:Int)
 .have J:j<p.decls.length:=by omega
  have hy:p.decls[j]?=some p.decls[j]:=B8 J;have a5:p.decls[j]∈p.decls:=Fa J;have dp:p.decls.drop j=p.decls[j]::p.decls.drop (j+1):=Ge J;generalize p.decls[j]=y at*;have I:=a3.decls.2 y a5;rw[dp,Im]at E;refine sK λV u2=>?_;by_cases W:k<=2000
  .rw[A9 W]at E;refine Fi U W K9 ?_;refine A0.tt rfl (A0.kk (u2 _ _ ?_));clear u2 V;refine sK λV u2=>?_;have M:∀sl bx,sle sl [(3,A8 (y.count k)),(4,A8 j),(1,.box 1 0)]->ble bx [(1,.cells ((An p).map .d))]->V sl bx:=by
    intro sl bx h1 h2;refine u2 _ _ (A0.ww h1 h2 ?_);clear u2 V
    (refine lQ K9 λK L=>?_;refine ev ?_)
    refine⟨by unfold Az;unfold lim at*;omega,?_⟩
    (apply L;clear L K;try simp only[A4,])
    have hb:=Decl.K8 y k I;exact⟨(j+1,y.count k),⟨by simp only;omega,by simp only;omega,by simp only;omega,E⟩,by simp only;omega,by simp[sle,Ax,Ag],(by simp[ble,A7,An])⟩
   clear u2;have a0:y.count k=y.Ta (Jc y.vars (Ec y.sigs (D6 y.fields (C8 y.A1 (k+1+((y.name.length / 50:Nat):Int)+((y.recv.length / 50:Nat):Int)))))):=rfl;generalize y.count k=res at*;have aa:=Rp I.name;have ab:=Rp I.recv;refine A0.bb ?_
   (refine sQ K9 λK L=>?_;refine ev ?_)
   refine⟨by omega,Bb y,Ev hy,rfl,?_⟩;refine ev ?_
   (apply L;clear L K)
   (refine sG K9 [] 17 [] λK L=>?_;simp -implicitDefEqProofs only[EV,Nat.reduceAdd,Nat.reduceEqDiff,Int.reduceEq,reduceCtorEq,Mx,B1j,Vi,Y0,])
   generalize af:k+1+((y.name.length / 50:Nat):Int)+((y.recv.length / 50:Nat):Int)=n2 at*;have h3:=B5i y.A1 n2 I.A1.2;have h4:=B5m y.fields (C8 y.A1 n2) I.fields.2;refine⟨(by first| (unfold Az;omega)| (simp only[Az,sm,lim]at*;omega)),(by first| (unfold Az;omega)| (simp only[Az,sm,lim]at*;omega)),(by first| (unfold Az;omega)| (simp only[Az,sm,lim]at*;omega)),(by first| (unfold Az;omega)| (simp only[Az,sm,lim]at*;omega)),(by first| (unfold Az;omega)| (simp only[Az,sm,lim]at*;omega)),A8 (C8 y.A1 n2),.inl ⟨_,rfl,E3h _ _ (by omega) (by unfold cap;omega),rfl⟩,?_⟩;refine ev ?_;refine⟨A8 (D6 y.fields (C8 y.A1 n2)),.inl ⟨_,rfl,E0u _ _ (by omega) (by unfold cap;omega),rfl⟩,?_⟩;refine ev ?_
   (apply L;clear L K)
   generalize ae:D6 y.fields (C8 y.A1 n2)=n3 at*;have ad:=I.sigs.1;have a':=I.vars.1;have h5:=C4w y.sigs n3 I.sigs.2;have h6:=C3t y.vars (Ec y.sigs n3) I.vars.2;have a9:=A5.K8 y.sig (Jc y.vars (Ec y.sigs n3)) I.sig;have ac:=Ex.K8 y.body (y.sig.count (Jc y.vars (Ec y.sigs n3))) I.body;refine sK λK3 u3=>?_;have M:∀sl bx,sle sl [(3,A8 (Ec y.sigs n3)),(4,A8 j),(1,.box 1 0),(5,.box 5 0)]->ble bx [(1,.cells ((An p).map .d)),(5,.cells ((Bb y).map .d))]->K3 sl bx:=by
    intro sl bx h1 h2;refine u3 _ _ (A0.ww h1 h2 ?_);clear u3 K3;generalize ah:Ec y.sigs n3=n4 at*;refine sK λK3 u3=>?_;have M:∀sl bx,sle sl [(3,A8 (Jc y.vars n4)),(4,A8 j),(1,.box 1 0),(5,.box 5 0)]->ble bx [(1,.cells ((An p).map .d)),(5,.cells ((Bb y).map .d))]->K3 sl bx:=by
     intro sl bx h1 h2;refine u3 _ _ (A0.ww h1 h2 ?_);clear u3 K3;generalize ag:Jc y.vars n4=n5 at*;refine sR K9 ?_;unfold Decl.Ta at a0;by_cases O:n5<=2000
     .rw[A9 O]at a0;refine A0.tt (by simp[Ao,Ag,O]) ?_
      (refine lG K9 [] 6 [] λK L=>?_;refine As O ?_)
      refine⟨A8 (y.sig.count n5),.inl ⟨_,rfl,D9x _ _ (by omega) (by unfold cap;omega),rfl⟩,?_⟩;refine ev ?_;refine⟨A8 (y.body.count (y.sig.count n5)),.inl ⟨_,rfl,D7t _ _ (by omega) (by unfold cap;omega),rfl⟩,?_⟩;refine ev ?_
      (apply L;clear L K;try simp only[A4,Ab])
      exact M _ _ (by simp[sle,Ax,Ag,a0]) (by simp[ble,A7,An])
     .rw[A6 O]at a0;refine A0.ff (by simp[Ao,Ag,O]) (A0.kk ?_);simp only[A4,Ab];exact M _ _ (by simp[sle,Ax,Ag,a0]) (by simp[ble,A7,An])
    refine sR K9 ?_;refine A0.bb (A0.loop (X:=Nat × Int) (λx=>[(3,A8 x.2),(7,A8 x.1),(4,A8 j),(1,.box 1 0),(5,.box 5 0)]) (λ_=>[(1,.cells ((An p).map .d)),(5,.cells ((Bb y).map .d))])
     (λx=>x.1<=y.vars.length/\0<=x.2/\x.2<=cap+100000000000000/\Jc (y.vars.drop x.1) x.2=Jc y.vars n4) (λx=>y.vars.length - x.1) (0,n4) ?_ ?_ ?_ ?_)
    .exact⟨by simp,by omega,by unfold cap at*;omega,by first|rfl|simp⟩
    .simp[sle,Ax,Ag]
    .exact(by simp[ble,A7,Bb,An])
    rintro⟨i,m⟩ ⟨hi,a1,a4,E⟩;simp only at hi a1 a4 E;by_cases U:(i:Int)<(y.vars.length:Int)
    .have J:i<y.vars.length:=by omega
     have hx:y.vars[i]?=some y.vars[i]:=B8 J;have Z:y.vars[i]∈y.vars:=Fa J;have dp:y.vars.drop i=y.vars[i]::y.vars.drop (i+1):=Ge J;generalize y.vars[i]=x at*;rw[dp,Jc]at E;refine sK λV u2=>?_;by_cases W:m<=2000
     .rw[A9 W]at E;refine Fi U W K9 ?_;refine A0.tt rfl (A0.kk (u2 _ _ ?_));clear u2 V;refine sK λV u2=>A0.bb ?_
      (refine lQ K9 λK L=>?_;simp -implicitDefEqProofs only[EV,Nat.reduceEqDiff,reduceCtorEq,Mx,C7d,Y0,])
      (have hq:=Rp (I.vars.2 x Z);refine⟨(by first| (unfold Az;omega)| (simp only[Az,sm,lim]at*;omega)),by omega,_,Ku hx,rfl,?_⟩;refine ev ?_;refine⟨(by first| (unfold Az;omega)| (simp only[Az,sm,lim]at*;omega)),by unfold Az cap at*;omega,?_⟩)
      (apply L;clear L K;try simp only[A4,Ab])
      refine u2 _ _ ?_;clear u2 V
      (refine lQ K9 λK L=>?_;refine ev ?_)
      refine⟨by unfold Az;unfold lim at*;omega,?_⟩
      (apply L;clear L K;try simp only[A4,])
      have hb:=Rp (I.vars.2 x Z);exact⟨(i+1,m+1+((x.length / 50:Nat):Int)),⟨by simp only;omega,by simp only;omega,by simp only;unfold cap;omega,E⟩,by simp only;omega,by simp[sle,Ax,Ag],(by simp[ble,A7,Bb,An])⟩
     .rw[A6 W]at E;refine Fi U W K9 ?_;refine A0.ff rfl (A0.xx ?_);simp only[A4,Ab,Ae];exact M _ _ (by simp[sle,Ax,Ag,E]) (by simp[ble,A7,Bb,An])
    .refine Ai U K9 λV u2=>?_;refine A0.ff rfl (A0.xx ?_);simp only[A4,Ab,Ae];rw[Jf (by omega),Jc]at E;exact M _ _ (by simp[sle,Ax,Ag,E]) (by simp[ble,A7,Bb,An])
   refine sR K9 ?_;refine A0.bb (A0.loop (X:=Nat × Int) (λx=>[(3,A8 x.2),(6,A8 x.1),(4,A8 j),(1,.box 1 0),(5,.box 5 0)]) (λ_=>[(1,.cells ((An p).map .d)),(5,.cells ((Bb y).map .d))])
    (λx=>x.1<=y.sigs.length/\0<=x.2/\x.2<=cap+100000000000000/\Ec (y.sigs.drop x.1) x.2=Ec y.sigs n3) (λx=>y.sigs.length - x.1) (0,n3) ?_ ?_ ?_ ?_)
   .exact⟨by simp,by omega,by unfold cap at*;omega,by first|rfl|simp⟩
   .simp[sle,Ax,Ag]
   .exact(by simp[ble,A7,Bb,An])
   rintro⟨i,m⟩ ⟨hi,a1,a4,E⟩;simp only at hi a1 a4 E;by_cases U:(i:Int)<(y.sigs.length:Int)
   .have J:i<y.sigs.length:=by omega
    have hx:y.sigs[i]?=some y.sigs[i]:=B8 J;have Z:y.sigs[i]∈y.sigs:=Fa J;have dp:y.sigs.drop i=y.sigs[i]::y.sigs.drop (i+1):=Ge J;generalize y.sigs[i]=x at*;rw[dp,Ec]at E;refine sK λV u2=>?_;by_cases W:m<=2000
    .rw[A9 W]at E;refine Fi U W K9 ?_;refine A0.tt rfl (A0.kk (u2 _ _ ?_));clear u2 V;refine sK λV u2=>A0.bb ?_
     (refine lQ K9 λK L=>?_;refine ev ?_)
     (refine⟨by omega,Fw x,F6 hx,rfl,?_⟩;refine ev ?_;refine⟨A8 (x.count m),.inl ⟨_,rfl,D9x x m a1 (by unfold cap;omega),rfl⟩,?_⟩;refine ev ?_)
     (apply L;clear L K;try simp only[A4,Ab])
     refine u2 _ _ ?_;clear u2 V
     (refine lQ K9 λK L=>?_;refine ev ?_)
     refine⟨by unfold Az;unfold lim at*;omega,?_⟩
     (apply L;clear L K;try simp only[A4,])
     have hb:=A5.K8 x m (I.sigs.2 x Z);exact⟨(i+1,x.count m),⟨by simp only;omega,by simp only;omega,by simp only;unfold cap;omega,E⟩,by simp only;omega,by simp[sle,Ax,Ag],(by simp[ble,A7,Bb,An])⟩
    .rw[A6 W]at E;refine Fi U W K9 ?_;refine A0.ff rfl (A0.xx ?_);simp only[A4,Ab,Ae];exact M _ _ (by simp[sle,Ax,Ag,E]) (by simp[ble,A7,Bb,An])
   .refine Ai U K9 λV u2=>?_;refine A0.ff rfl (A0.xx ?_);simp only[A4,Ab,Ae];rw[Jf (by omega),Ec]at E;exact M _ _ (by simp[sle,Ax,Ag,E]) (by simp[ble,A7,Bb,An])
  .rw[A6 W]at E;refine Fi U W K9 ?_;refine A0.ff rfl (A0.xx ?_);simp only[A4,Ab,Ae];exact M _ _ (by simp[sle,Ax,Ag,E]) sB
 .refine Ai U K9 λV u2=>?_;refine A0.ff rfl (A0.xx ?_);simp only[A4,Ab,Ae];rw[Jf (by omega),Im]at E;exact M _ _ (by simp[sle,Ax,Ag,E]) sB
def Prog.K8(p:Prog)(h:p.Ok):0<=p.count:=by
 have U:=(Ex.K8 p.main 0 h.main).1;have J:∀(l:List Decl) (n:Int),(∀d,d∈l->d.Ok)->n<=Im l n:=by
  intro l
  induction l with
  |nil=>intro n _;simp[Im]
  |cons d l L =>
   intro n E;simp only[Im];split
   .have I:=Decl.K8 d n (E d (by simp));have O:=L (d.count n) (λu M=>E u (by simp[M]));omega
   .omega
 have I:=J p.decls (p.main.count 0) h.decls.2;unfold Prog.count;omega
def F5v(p:Prog):Ac prog 24 [D7 p] (Ay (decide (p.count<=600))):=by refine cB func24 ?_;refine sR [0,1,2] ?_;refine sC (G3r p) [0,1,2] ?_;exact aR
def Decl.Jx(d:Decl)(E:A3):Bool:=(decide (d.kind=1) ||decide (d.kind=2)) && decide (d.name=E)
def findD(E:A3):List Decl->Nat->Int
 |[],_=>-1
 |d::ds,i=>if d.Jx E=true then i else findD E ds (i+1)
abbrev Rg:List Nat:=[0,1,2,4,5,10,38]
def A8u(p:Prog)(J:A3):Ac prog 59 [D7 p,D9 J] (A8 (findD J p.decls 0)):=by
 refine Bj.bd (Enters.of func59 rfl (by decide)) λa1=>?_;have a0:=B3s a1.1;have hl:=a0.decls.1;refine cB func59 ?_;refine sR Rg<|sK λK1 u1=>?_;have a2:∀sl bx,findD J p.decls 0 = -1->K1 sl bx:=by intro sl bx h1;refine u1 _ _ (A0.ww (sl':=[]) (bx':=[]) trivial trivial ?_);clear u1 K1;refine sR Rg ?_;rw[h1];exact aR
 refine sR Rg ?_;refine A0.bb (A0.loop (X:=Nat) (λx=>[(5,A8 x),(1,D9 J),(2,.box 2 0)]) (λ_=>[(2,.cells ((An p).map .d))])
  (λx=>x<=p.decls.length/\findD J (p.decls.drop x) x=findD J p.decls 0) (λx=>p.decls.length - x) 0 ?_ ?_ ?_ ?_)
 .exact⟨by simp,rfl⟩
 .exact sS
 .exact(by simp[ble,A7,An])
 rintro j ⟨hj,E⟩;by_cases Z:(j:Int)<(p.decls.length:Int)
 .have U:j<p.decls.length:=by omega
  have W:p.decls[j]?=some p.decls[j]:=B8 U;have dp:p.decls.drop j=p.decls[j]::p.decls.drop (j+1):=Ge U;generalize p.decls[j]=y at*;rw[dp,findD]at E;refine Ai Z Rg λV u2=>?_;refine A0.tt rfl (A0.kk (u2 _ _ ?_));clear u2 V;refine sK λV u2=>A0.bb ?_;by_cases M:y.kind=1
  .by_cases O:y.name=J
   ·(refine sQ Rg λK I=>?_;simp -implicitDefEqProofs only[EV,Nat.reduceEqDiff,reduceCtorEq,J3,A7b,A3i,Y0,])
    repeat (refine⟨by omega,Bb y,Ev W,rfl,?_⟩;refine Gv M O ?_)
    (apply I;clear I K)
    have ht:y.Jx J=true:=by simp[Decl.Jx,M,O]
    rw[A9 ht]at E;refine A0.tt rfl<|sR Rg ?_;rw[<-E];exact aR
   ·(refine sQ Rg λK I=>?_;simp -implicitDefEqProofs only[EV,Nat.reduceEqDiff,reduceCtorEq,J3,A7b,A3i,Y0,])
    repeat (refine⟨by omega,Bb y,Ev W,rfl,?_⟩;refine Gv M O ?_)
    (apply I;clear I K)
    have ht:¬y.Jx J=true:=by simp[Decl.Jx,M,O]
    rw[A6 ht]at E;refine A0.ff rfl (A0.kk ?_);simp only[A4,Ab];refine u2 _ _ ?_;clear u2 V
    (refine lQ Rg λK I=>?_;refine ev ?_)
    refine⟨by unfold Az;unfold lim at*;omega,?_⟩
    (apply I;clear I K;try simp only[A4,])
    exact⟨j+1,⟨by omega,E⟩,by omega,by simp[sle,Ax,Ag],(by simp[ble,A7,An])⟩
  .by_cases L:y.kind=2
   .by_cases O:y.name=J
    ·(refine sQ Rg λK I=>?_;simp -implicitDefEqProofs only[EV,Nat.reduceEqDiff,reduceCtorEq,J3,A7b,A3i,Y0,])
     repeat (refine⟨by omega,Bb y,Ev W,rfl,?_⟩;refine Gv L O ?_)
     (apply I;clear I K)
     have ht:y.Jx J=true:=by simp[Decl.Jx,L,O]
     rw[A9 ht]at E;refine A0.tt rfl<|sR Rg ?_;rw[<-E];exact aR
    ·(refine sQ Rg λK I=>?_;simp -implicitDefEqProofs only[EV,Nat.reduceEqDiff,reduceCtorEq,J3,A7b,A3i,Y0,])
     repeat (refine⟨by omega,Bb y,Ev W,rfl,?_⟩;refine Gv L O ?_)
     (apply I;clear I K)
     have ht:¬y.Jx J=true:=by simp[Decl.Jx,L,O]
     rw[A6 ht]at E;refine A0.ff rfl (A0.kk ?_);simp only[A4,Ab];refine u2 _ _ ?_;clear u2 V
     (refine lQ Rg λK I=>?_;refine ev ?_)
     refine⟨by unfold Az;unfold lim at*;omega,?_⟩
     (apply I;clear I K;try simp only[A4,])
     exact⟨j+1,⟨by omega,E⟩,by omega,by simp[sle,Ax,Ag],(by simp[ble,A7,An])⟩
   ·(refine sQ Rg λK I=>?_;simp -implicitDefEqProofs only[EV,Nat.reduceEqDiff,reduceCtorEq,J3,A7b,A3i,Y0,])
    repeat (refine⟨by omega,Bb y,Ev W,rfl,?_⟩;refine Gv M L ?_)
    (apply I;clear I K)
    have ht:¬y.Jx J=true:=by simp[Decl.Jx,M,L]
    rw[A6 ht]at E;refine A0.ff rfl (A0.kk ?_);simp only[A4,Ab];refine u2 _ _ ?_;clear u2 V
    (refine lQ Rg λK I=>?_;refine ev ?_)
    refine⟨by unfold Az;unfold lim at*;omega,?_⟩
    (apply I;clear I K;try simp only[A4,])
    exact⟨j+1,⟨by omega,E⟩,by omega,by simp[sle,Ax,Ag],(by simp[ble,A7,An])⟩
 .refine Ai Z Rg λV u2=>?_;refine A0.ff rfl (A0.xx ?_);simp only[A4,Ab,Ae];rw[Jf (by omega),findD]at E;exact a2 _ _ E.symm
def kindOf(p:Prog)(E:A3):Int:=match p.decls.find? (λd=>d.Jx E)with
 |some d=>d.kind
 |none=>0
def A9g(E:A3):∀(l:List Decl)(i:Nat),(findD E l i = -1/\l.find? (λd=>d.Jx E)=none)\/∃k d,l[k]?=some d/\findD E l i=((i+k:Nat):Int)/\l.find? (λd=>d.Jx E)=some d
 |[],i=>by simp[findD]
 |d::ds,i=>by
  simp only[findD,At8];split
  .rename_i h;exact .inr ⟨0,d,rfl,rfl,by simp[h]⟩
  .rename_i h;rcases A9g E ds (i+1)with⟨I,J⟩|⟨k,M,I,J,L⟩
   .exact .inl ⟨I,by simp[h,J]⟩
   .exact .inr ⟨k+1,M,by simpa using I,by rw[J];congr 1;omega,by simp[h,L]⟩
abbrev q7z:List Nat:=[0,1,2,4,5,10]
def B0m(p:Prog)(E:A3):Ac prog 57 [D7 p,D9 E] (A8 (kindOf p E)):=by
 refine Bj.bd (Enters.of func57 rfl (by decide)) λO=>?_;have M:=B3s O.1;have hl:=M.decls.1;refine cB func57 ?_;refine sR q7z ?_;refine sC (A8u p E) q7z<|sK λK1 u1=>?_;rcases A9g E p.decls 0 with⟨I,L⟩|⟨k,d,I,L,W⟩
 .rw[I];have J:kindOf p E=0:=by simp[kindOf,L]
  refine sR q7z ?_;refine A0.tt rfl<|sR q7z ?_;rw[J];exact aR
 .rw[L];have J:kindOf p E=d.kind:=by simp[kindOf,W]
  have V:¬((0+k:Nat):Int)<0:=by omega
  have Z:((0+k:Nat):Int).toNat=k:=by omega
  refine sR q7z ?_;refine A0.ff rfl (A0.kk (u1 _ _ ?_));clear u1 K1
  (refine sQ q7z λK U=>?_;refine ev ?_)
  refine⟨by omega,Bb d,Ev I,rfl,?_⟩;refine ev ?_
  (apply U;clear U K)
  rw[J];exact aR
abbrev q8z:List Nat:=[0,1,4,5,9,17]
def A9c(l:List A3)(s:A3):Ac prog 180 [Cy l,D9 s] (Ay (decide (s∈l))):=by
 refine Bj.bd (Enters.of func180 rfl (by decide)) λU=>?_;have hl:=(B4y U.1).1;refine cB func180 ?_;refine sR q8z<|sK λZ u1=>?_;have V:∀sl bx,¬s∈l->Z sl bx:=by intro sl bx h1;refine u1 _ _ (A0.ww (sl':=[]) (bx':=[]) trivial trivial ?_);clear u1 Z;refine sR q8z ?_;rw[Ce h1];exact aR
 refine sR q8z ?_;refine A0.bb (A0.loop (X:=Nat) (λx=>[(5,A8 x),(0,Cy l),(1,D9 s)]) (λ_=>[])
  (λx=>x<=l.length/\(s∈l↔s∈l.drop x)) (λx=>l.length - x) 0 ?_ ?_ ?_ ?_)
 .exact⟨by simp,by simp⟩
 .exact sS
 .exact sB
 rintro j ⟨hj,I⟩;by_cases L:(j:Int)<(l.length:Int)
 .have E:j<l.length:=by omega
  have W:l[j]?=some l[j]:=B8 E;have a0:l[j]∈l:=Fa E;have dp:l.drop j=l[j]::l.drop (j+1):=Ge E;generalize l[j]=y at*;rw[dp,Aw]at I;refine Ai L q8z λO u2=>?_;refine A0.tt rfl (A0.kk (u2 _ _ ?_));clear u2 O;refine sK λO u2=>A0.bb ?_;by_cases M:y=s
  ·(refine sQ q8z λK J=>?_;refine ev ?_)
   refine⟨by omega,_,Ku W,rfl,?_⟩;refine As M ?_
   (apply J;clear J K)
   refine A0.tt rfl<|sR q8z ?_;rw[Bo (I.2 (.inl M.symm))];exact aR
  ·(refine sQ q8z λK J=>?_;refine ev ?_)
   refine⟨by omega,_,Ku W,rfl,?_⟩;refine As M ?_
   (apply J;clear J K)
   refine A0.ff rfl (A0.kk ?_);simp only[A4,Ab];refine u2 _ _ ?_;clear u2 O
   (refine lQ q8z λK J=>?_;refine ev ?_)
   refine⟨by unfold Az;unfold lim at*;omega,?_⟩
   (apply J;clear J K;try simp only[A4,])
   exact⟨j+1,⟨by omega,by rw[I];exact⟨λh=>h.resolve_left (λh=>M h.symm),.inr⟩⟩,by omega,by simp[sle,Ax,Ag],sB⟩
 .refine Ai L q8z λO u2=>?_;refine A0.ff rfl (A0.xx ?_);simp only[A4,Ab,Ae];rw[Jf (by omega)]at I;exact V _ _ (by rw[I];simp)
def Bs:A3->A3->Int
 |[],[]=>0
 |[],_::_=>-1
 |_::_,[]=>1
 |x::xs,y::ys=>if x<y then -1 else if y<x then 1 else Bs xs ys
abbrev Pp:List Nat:=[0,1,4,5,15,24,31,36,41]
def B4i(a b:A3):Ac prog 51 [D9 a,D9 b] (A8 (Bs a b)):=by
 refine Bj.bd (Enters.of func51 rfl (by decide)) λa0=>?_;have a2:=V6 a0.1;have a3:=V6 a0.2.1;refine cB func51 ?_;refine sR Pp<|sK λW u1=>?_;have Z:∀sl bx,sle sl [(0,D9 a),(1,D9 b)]->(Bs a b=if(a.length:Int)<b.length then -1 else if(b.length:Int)<a.length then 1 else 0)->W sl bx:=by
  intro sl bx a1 hc;refine u1 _ _ (A0.ww (bx':=[]) a1 trivial ?_);clear u1 W;refine sK λW u1=>?_;by_cases h1:(a.length:Int)<b.length
  .refine Aq h1 Pp ?_;refine A0.tt rfl<|sR Pp ?_;rw[hc,A9 h1];exact aR
  .refine Aq h1 Pp ?_;refine A0.ff rfl (A0.kk (u1 _ _ ?_));clear u1 W;refine sK λW u1=>?_;by_cases h2:(b.length:Int)<a.length
   .refine Aq h2 Pp ?_;refine A0.tt rfl<|sR Pp ?_;rw[hc,A6 h1,A9 h2];exact aR
   .refine Aq h2 Pp ?_;refine A0.ff rfl (A0.kk (u1 _ _ ?_));clear u1 W;refine sR Pp ?_;rw[hc,A6 h1,A6 h2];exact aR
 refine sR Pp ?_;refine A0.bb (A0.loop (X:=Nat) (λx=>[(5,A8 x),(0,D9 a),(1,D9 b)]) (λ_=>[])
  (λx=>x<=a.length/\x<=b.length/\Bs (a.drop x) (b.drop x)=Bs a b) (λx=>a.length - x) 0 ?_ ?_ ?_ ?_)
 .exact⟨by simp,by simp,rfl⟩
 .exact sS
 .exact sB
 rintro j ⟨hj,a4,E⟩;by_cases V:(j:Int)<(a.length:Int)
 .by_cases U:(j:Int)<(b.length:Int)
  .have M:j<a.length:=by omega
   have I:j<b.length:=by omega
   have hx:a[j]?=some a[j]:=B8 M;have hy:b[j]?=some b[j]:=B8 I;rw[Ge M,Ge I,Bs]at E;generalize a[j]=x at*;generalize b[j]=y at*;refine Sv V U Pp λK2 u2=>?_;refine A0.tt rfl (A0.kk (u2 _ _ ?_));clear u2 K2;refine sK λK2 u2=>A0.bb<|sK λK3 u3=>?_
   (refine sG Pp [] 6 [] λK O=>?_;refine ev ?_)
   refine⟨by omega,x,hx,by omega,y,hy,?_⟩
   (apply O;clear O K)
   have e1:∀u v:UInt8,(u.toNat:Int)<v.toNat↔u<v:=λu v=>by rw[Am9];omega
   simp only[e1];by_cases J:x<y
   .rw[A9 J]at E;refine A0.tt (by simp[Ao,Ag,J])<|sR Pp ?_;rw[<-E];exact aR
   .rw[A6 J]at E;refine A0.ff (by simp[Ao,Ag,J]) (A0.kk ?_);simp only[A4,];refine u3 _ _ ?_;clear u3 K3
    (refine sG Pp [] 6 [] λK O=>?_;refine ev ?_)
    refine⟨by omega,x,hx,by omega,y,hy,?_⟩
    (apply O;clear O K)
    simp only[e1];by_cases L:y<x
    .rw[A9 L]at E;refine A0.tt (by simp[Ao,Ag,L])<|sR Pp ?_;rw[<-E];exact aR
    .rw[A6 L]at E;refine A0.ff (by simp[Ao,Ag,L]) (A0.kk ?_);simp only[A4,Ab];refine u2 _ _ ?_;clear u2 K2
     (refine lQ Pp λK O=>?_;refine ev ?_)
     refine⟨by unfold Az;unfold lim at*;omega,?_⟩
     (apply O;clear O K;try simp only[A4,])
     exact⟨j+1,⟨by omega,by omega,E⟩,by omega,by simp[sle,Ax,Ag],sB⟩
  .refine Sv V U Pp λK2 u2=>?_;refine A0.ff rfl (A0.xx ?_);simp only[A4,Ab,Ae];have hd:b.drop j=[]:=Jf (by omega);rw[hd,Ge (show j<a.length by omega),Bs]at E;exact Z _ _ sS (by rw[<-E,A6 (by omega),A9 (by omega)])
 .refine Ai V Pp λK2 u2=>?_;refine A0.ff rfl (A0.xx ?_);simp only[A4,Ab,Ae];have hd:a.drop j=[]:=Jf (by omega);rw[hd]at E;refine Z _ _ sS ?_;rw[<-E];by_cases hb:j<b.length
  .rw[Ge hb,Bs,A9 (by omega)]
  .rw[Jf (by omega),Bs,A6 (by omega),A6 (by omega)]
def ins(s:A3):List A3->List A3
 |[]=>[s]
 |x::xs=>if Bs s x<0 then s::x::xs else x::ins s xs
def Vc(l:List A3)(s:A3):List A3:=if s∈l then l else ins s l
def C7v(s:A3):∀l,(ins s l).length=l.length+1
 |[]=>rfl
 |x::xs=>by simp only[ins];split <;> simp[C7v s xs]
abbrev P5:List Nat:=[0,1,4,5,6,7,10,15,28,41]
def F6d(l:List A3)(s:A3)(a2:l.length<=1000000):Ac prog 297 [Cy l,D9 s] (Cy (Vc l s)):=by
 refine cB func297 ?_;refine sR P5 ?_;refine kC (A9c l s) P5 λU u1=>?_;by_cases J:s∈l
 .refine A0.tt (by simp[Ao,Ag,J])<|sR P5 ?_;rw[Vc,A9 J];exact aR
 refine A0.ff (by simp[Ao,Ag,J]) (A0.kk (u1 _ _ ?_));clear u1 U;refine sR P5 ?_;refine sR P5 ?_;refine A0.pp 5 1 5 rfl<|sK λU u1=>?_;have a1:∀sl bx (b:Bool) r,sle sl [(1,D9 s),(5,.acc 5),(6,Ay b)]->ble bx [(5,.rows 1 (C5 r))]->r.length<=l.length+1->(if b then r else r++[s])=ins s l->U sl bx:=by
  intro sl bx b r Z h2 hr hb;refine u1 _ _ (A0.ww Z h2 ?_);clear u1 U Z h2;refine kR P5 λU u1=>?_;cases b with
  |true =>refine A0.ff rfl (A0.kk (u1 _ _ ?_));clear u1 U;refine sR P5 ?_;simp only[Ae]at hb;rw[Vc,A6 J,<-hb];exact aR
  |false =>
   refine A0.tt rfl ?_
   (refine lQ P5 λK I=>?_;refine ev ?_)
   refine⟨by simp,by unfold lim;omega,?_⟩
   (apply I;clear I K;try simp only[A4,])
   refine u1 _ _ ?_;clear u1 U;refine sR P5 ?_;have e:C5 r++[[D.str s]]=C5 (r++[s]):=by simp[C5]
   simp only[I6,Fy]at hb;rw[Vc,A6 J,<-hb,e];exact aR
 refine sR P5 ?_;refine A0.bb (A0.loop (X:=Nat × Bool × List A3) (λx=>[(7,A8 x.1),(0,Cy l),(1,D9 s),(5,.acc 5),(6,Ay x.2.1)]) (λx=>[(5,.rows 1 (C5 x.2.2))])
  (λx=>x.1<=l.length/\x.2.2++(if x.2.1 then l.drop x.1 else ins s (l.drop x.1))=ins s l) (λx=>l.length - x.1) (0,false,[]) ?_ ?_ ?_ ?_)
 .exact⟨by simp,by simp⟩
 .exact sS
 .simp[ble,A7,C5]
 rintro⟨j,b,r⟩ ⟨hj,E⟩;simp only at hj E;have M:=Gk List.length E;simp only[Bz,C7v]at M;have V:r.length=if b then j+1 else j:=by
  cases b
  .simp only[I6,Fy,C7v,Aq6]at M |-;omega
  .simp only[Ae,Aq6]at M |-;omega
 clear M;by_cases a0:(j:Int)<(l.length:Int)
 .have O:j<l.length:=by omega
  have hy:l[j]?=some l[j]:=B8 O;have dp:l.drop j=l[j]::l.drop (j+1):=Ge O;generalize l[j]=y at*;rw[dp]at E;refine Ai a0 P5 λK2 u2=>?_;refine A0.tt rfl (A0.kk (u2 _ _ ?_));clear u2 K2;refine sK λK2 u2=>A0.bb<|sK λK3 u3=>?_;have L:∀sl bx (b':Bool) W,sle sl [(7,A8 j),(0,Cy l),(1,D9 s),(5,.acc 5),(6,Ay b')]->ble bx [(5,.rows 1 (C5 W))]->W.length<=l.length->W++y::(if b' then l.drop (j+1)else ins s (l.drop (j+1)))=ins s l->K3 sl bx:=by
   intro sl bx b' W Z h2 a3 h3;refine u3 _ _ (A0.ww Z h2 ?_);clear u3 K3 Z h2
   (refine lQ P5 λK I=>?_;refine ev ?_)
   refine⟨by omega,_,Ku hy,rfl,?_⟩;refine ev ?_;refine⟨by simp,by unfold lim;omega,?_⟩
   (apply I;clear I K;try simp only[A4,Ab])
   refine u2 _ _ ?_;clear u2 K2
   (refine lQ P5 λK I=>?_;refine ev ?_)
   refine⟨by unfold Az;omega,?_⟩
   (apply I;clear I K;try simp only[A4,])
   exact⟨(j+1,b',W++[y]),⟨by simp only;omega,by simpa using h3⟩,by simp only;omega,by simp[sle,Ax,Ag],by simp[ble,A7,C5]⟩
  clear u3 u2;cases b with
  |true =>simp only[Ae]at E V;refine sR P5 ?_;refine A0.ff rfl (A0.kk ?_);simp only[A4,];exact L _ _ true r sS sB (by omega) E
  |false =>
   simp only[I6,Fy,ins]at E V
   (refine sQ P5 λK I=>?_;refine ev ?_)
   refine⟨by omega,_,Ku hy,rfl,?_⟩;refine ev ?_;refine⟨A8 (Bs s y),.inl ⟨_,rfl,B4i s y,rfl⟩,?_⟩;refine ev ?_
   (apply I;clear I K)
   by_cases hc:Bs s y<0
   .rw[A9 hc]at E;refine A0.tt (by simp[Ao,Ag,hc]) ?_;have a4:r.length<=l.length:=by omega
    have e:C5 r++[[D.str s]]=C5 (r++[s]):=by simp[C5]
    (refine sQ P5 λK I=>?_;refine ev ?_)
    refine⟨by simp,by unfold lim;omega,?_⟩;rw[e]
    (apply I;clear I K)
    (refine lV P5 λK z=>?_;apply z;clear z K;try simp only[A4,])
    exact L _ _ true (r++[s]) sS sB (by simp only[Bz,C6,Dy];omega) (by simpa using E)
   .rw[A6 hc]at E;refine A0.ff (by simp[Ao,Ag,hc]) (A0.kk ?_);simp only[A4,];exact L _ _ false r sS sB (by omega) (by simpa using E)
 .refine Ai a0 P5 λK2 u2=>?_;refine A0.ff rfl (A0.xx ?_);simp only[A4,Ab,Ae];rw[Jf (by omega)]at E;exact a1 _ _ b r sS sB (by cases b <;> simp only[Ae,I6,Fy]at V <;> omega) (by rw[<-E];cases b <;> simp[ins])
end Go.Abs
