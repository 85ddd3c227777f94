/- several texts in one -/
import Derived.Test.YtaneedhchnaniaaGreatDoorKEV
namespace Go.Abs
set_option maxRecDepth 100000
set_option maxHeartbeats 1000000
set_option linter.all false
open Go Go.Proofs Tryz
mutual
def Ty.count:Ty→Int→Int
 |.mk n a _,k=>Ty.C4 a (k+1+((n.length / 50:Nat):Int))
def Ty.C4:List Ty→Int→Int
 |[],k=>k
 |t::E,k=>if k≤2000 then Ty.C4 E (t.count k) else k
end
theorem Ty.count_eq (t:Ty)(k:Int):t.count k=Ty.C4 t.args (k+1+((t.name.length / 50:Nat):Int)):=by cases t;rfl
def cap:Int:=4611686018427387904
mutual
theorem Ty.J9:∀(t:Ty)(k:Int),t.Ok→k≤t.count k∧t.count k≤max k 2000+2814749767107
 |.mk n a p,k,h=>by have I:n.length≤lim:=h.name;have:=Ty.A4u a (k+1+((n.length / 50:Nat):Int)) (fun t ht=>h.arg t ht);simp only [Ty.count];unfold lim at I;omega
theorem Ty.A4u:∀(l:List Ty)(k:Int),(∀t,t∈l→t.Ok)→k≤Ty.C4 l k∧Ty.C4 l k≤max k (2000+2814749767107)
 |[],k,_=>by simp only [Ty.C4];omega
 |t::J,k,h=>by
  simp only [Ty.C4];split
  ·have O:=Ty.J9 t k (h t (by simp));have L:=Ty.A4u J (t.count k) (fun u E=>h u (by simp [E]));omega
  ·omega
end
abbrev q1r:List Nat:=[0,1,2,4,5,21]
theorem A2q:∀(t:Ty)(n:Int),0≤n→n≤cap→Ac prog 22 [Be t,A9 n] (A9 (t.count n)):=by
 intro t
 induction t using Ty.induct with
 |h t ih =>
 intro n h0 h1;refine Cd.bd (Enters.of func22 rfl (by decide)) fun a1=>?_;have O:=E3j a1.1;have R:=O.name;have V:=O.len;have hq:t.name.length / 50≤2814749767106:=by unfold lim at R;omega
 refine cB func22 ?_;refine sR q1r ?_
 (refine sQ q1r fun K J=>?_;refine ev ?_)
 refine⟨by unfold B7 cap at *;omega,(by first| (unfold B7;omega)| (simp only [B7,sm,lim] at *;omega)),by unfold B7 cap at *;omega,?_⟩
 (apply J;clear J K)
 refine kR q1r fun K1 u1=>?_;refine A0.bb (A0.loop (X:=Nat × Int) (fun x=>[(1,A9 x.2),(2,.box 2 0),(5,A9 x.1)]) (fun _=>[(2,.cells [.d (.str t.name),.d (.slice (Aq t.args)),.d (.int .i64 t.pos)])])
  (fun x=>x.1≤t.args.length∧0≤x.2∧x.2≤cap+2814749769108∧Ty.C4 (t.args.drop x.1) x.2=t.count n) (fun x=>t.args.length - x.1) (0,n+1+((t.name.length / 50:Nat):Int)) ?_ ?_ ?_ ?_)
 ·exact⟨by simp,by omega,by unfold cap at *;omega,by rw [Ty.count_eq];rfl⟩
 ·simp [sle,Aw,Ae]
 ·simp [ble,A7]
 rintro⟨i,m⟩ ⟨hi,Z,a0,E⟩;simp only at hi Z a0 E;have W:∀z:Int,z=t.count n→K1 [(0,.undef),(1,A9 z),(2,.box 2 0),(4,.undef),(5,A9 i),(21,B0 false)] [(2,.cells [.d (.str t.name),.d (.slice (Aq t.args)),.d (.int .i64 t.pos)])]:=by rintro z rfl;refine u1 _ _ ?_;refine sR q1r ?_;exact aR
 by_cases U:(i:Int) < (t.args.length:Int)
 ·have I:i < t.args.length:=by omega
  have hx:t.args[i]? = some t.args[i]:=Ba I;have L:t.args[i]∈t.args:=F7 I;have dp:t.args.drop i=t.args[i]::t.args.drop (i+1):=Fy I;generalize t.args[i]=x at *;rw [dp,Ty.C4] at E;refine sK fun K2 u2=>?_;by_cases hm:m≤2000
  ·rw [A8 hm] at E;refine En U hm q1r ?_;refine A0.tt rfl (A0.kk (u2 _ _ ?_));clear u2 K2;refine sK fun K2 u2=>?_;refine A0.bb ?_
   (refine lQ q1r fun K J=>?_;refine ev ?_)
   refine⟨by omega,Bh x,F5 hx,rfl,?_⟩;simp -implicitDefEqProofs only [EV,Nat.reduceAdd,Nat.reduceEqDiff,reduceCtorEq,Bh];refine⟨A9 (x.count m),.inl ⟨_,rfl,ih x L m Z (by unfold cap;omega),rfl⟩,?_⟩;refine ev ?_
   (apply J;clear J K;try simp only [A4,Aa])
   refine u2 _ _ ?_;clear u2 K2
   (refine lQ q1r fun K J=>?_;refine ev ?_)
   refine⟨by unfold B7;unfold lim at V;omega,?_⟩
   (apply J;clear J K;try simp only [A4,])
   have hb:=Ty.J9 x m (O.arg x L);exact⟨(i+1,x.count m),⟨by simp only;omega,by simp only;omega,by simp only;unfold cap;omega,E⟩,by simp only;omega,by simp [sle,Aw,Ae],by simp [ble,A7]⟩
  ·rw [A6 hm] at E;refine En U hm q1r ?_;refine A0.ff rfl (A0.xx ?_);simp only [A4,Aa,Af];exact W m E
 ·refine Ai U q1r fun K2 u2=>?_;refine A0.ff rfl (A0.xx ?_);simp only [A4,Aa,Af];rw [Ig (by omega),Ty.C4] at E;exact W m E
variable {n:Nat}
theorem Q4 (h:n≤lim):n / 50≤2814749767106:=by unfold lim at h;omega
mutual
def Ex.count:Ex→Int→Int
 |.mk _ I t E ks _,n=>Ex.C4 ks (Ty.C4 E (t.count (n+((I.length / 50:Nat):Int))))
def Ex.C4:List Ex→Int→Int
 |[],n=>n
 |e::J,n=>if n≤2000 then Ex.C4 J (e.count n) else n
end
theorem Ex.count_eq (e:Ex)(n:Int):e.count n=Ex.C4 e.kids (Ty.C4 e.targs (e.type.count (n+((e.name.length / 50:Nat):Int)))):=by cases e;rfl
mutual
theorem Ex.J9:∀(e:Ex)(n:Int),e.Ok→n≤e.count n∧e.count n≤max n 2000+6000000000000
 |.mk k E t I ks p,n,h=>by
  have J:=Q4 h.name;have O:=Ty.J9 t (n+((E.length / 50:Nat):Int)) h.type;have W:=Ty.A4u I (t.count (n+((E.length / 50:Nat):Int))) h.targs.2;have Z:=Ex.A4u ks (Ty.C4 I (t.count (n+((E.length / 50:Nat):Int)))) h.kids.2;have R:((E.length / 50:Nat):Int)≤2814749767106:=by simp only [Ex.name] at J;omega
  simp only [Ex.count];have V:0≤((E.length / 50:Nat):Int):=by omega
  generalize ((E.length / 50:Nat):Int)=q at *;omega
theorem Ex.A4u:∀(l:List Ex)(n:Int),(∀t,t∈l→t.Ok)→n≤Ex.C4 l n∧Ex.C4 l n≤max n (2000+6000000000000)
 |[],n,_=>by simp only [Ex.C4];omega
 |t::U,n,h=>by
  simp only [Ex.C4];split
  ·have J:=Ex.J9 t n (h t (by simp));have O:=Ex.A4u U (t.count n) (fun u L=>h u (by simp [L]));omega
  ·omega
end
abbrev Qp:List Nat:=[0,1,2,4,5,6,24,42]
theorem C6i:∀(e:Ex)(n:Int),0≤n→n≤cap - 100000000000000→Ac prog 141 [Di e,A9 n] (A9 (e.count n)):=by
 intro e
 induction e using Ex.induct with
 |h e ih =>
 intro n h0 h1;refine Cd.bd (Enters.of func141 rfl (by decide)) fun a2=>?_;have J:=B9m a2.1;have hq:=Q4 J.name;have ht:=Ty.J9 e.type (n+((e.name.length / 50:Nat):Int)) J.type;have a5:=Ty.A4u e.targs (e.type.count (n+((e.name.length / 50:Nat):Int))) J.targs.2;have a4:=J.targs.1;have a3:=J.kids.1;have a1:=Ex.count_eq e n;refine cB func141 ?_;refine sR Qp ?_
 (refine sQ Qp fun K O=>?_;refine ev ?_)
 refine⟨(by first| (unfold B7;omega)| (simp only [B7,sm,lim] at *;omega)),by unfold B7 cap at *;omega,A9 (e.type.count (n+((e.name.length / 50:Nat):Int))),.inl ⟨_,rfl,A2q e.type _ (by omega) (by unfold cap at *;omega),rfl⟩,?_⟩;refine ev ?_
 (apply O;clear O K)
 generalize e.type.count (n+((e.name.length / 50:Nat):Int))=n1 at *;refine sK fun K1 u1=>?_;have U:∀sl bx,sle sl [(1,A9 (Ty.C4 e.targs n1)),(2,.box 2 0)]→ble bx [(2,.cells ((Ce e).map .d))]→K1 sl bx:=by
  intro sl bx h1 h2;refine u1 _ _ (A0.ww h1 h2 ?_);clear u1 K1;generalize Ty.C4 e.targs n1=n2 at *;refine kR Qp fun K1 u1=>?_;have U:∀sl bx,sle sl [(1,A9 (Ex.C4 e.kids n2))]→ble bx []→K1 sl bx:=by intro sl bx h1 h2;refine u1 _ _ (A0.ww h1 h2 ?_);refine sR Qp ?_;rw [a1];exact aR
  refine A0.bb (A0.loop (X:=Nat × Int) (fun x=>[(1,A9 x.2),(6,A9 x.1),(2,.box 2 0)]) (fun _=>[(2,.cells ((Ce e).map .d))])
   (fun x=>x.1≤e.kids.length∧0≤x.2∧x.2≤cap+100000000000000∧Ex.C4 (e.kids.drop x.1) x.2=Ex.C4 e.kids n2) (fun x=>e.kids.length - x.1) (0,n2) ?_ ?_ ?_ ?_)
  ·exact⟨by simp,by omega,by unfold cap at *;omega,by first| rfl| simp⟩
  ·simp [sle,Aw,Ae]
  ·exact (by simp [ble,A7,Ce,])
  rintro⟨i,m⟩ ⟨hi,V,a0,E⟩;simp only at hi V a0 E;by_cases L:(i:Int) < (e.kids.length:Int)
  ·have I:i < e.kids.length:=by omega
   have hx:e.kids[i]? = some e.kids[i]:=Ba I;have R:e.kids[i]∈e.kids:=F7 I;have dp:e.kids.drop i=e.kids[i]::e.kids.drop (i+1):=Fy I;generalize e.kids[i]=x at *;rw [dp,Ex.C4] at E;refine sK fun Z u2=>?_;by_cases W:m≤2000
   ·rw [A8 W] at E;refine En L W Qp ?_;refine A0.tt rfl (A0.kk (u2 _ _ ?_));clear u2 Z;refine sK fun Z u2=>?_;refine A0.bb ?_
    (refine lQ Qp fun K O=>?_;refine ev ?_)
    (refine⟨by omega,Ce x,Ed hx,rfl,?_⟩;refine ev ?_;refine⟨A9 (x.count m),.inl ⟨_,rfl,ih x R m V (by unfold cap;omega),rfl⟩,?_⟩;refine ev ?_)
    (apply O;clear O K;try simp only [A4,Aa])
    refine u2 _ _ ?_;clear u2 Z
    (refine lQ Qp fun K O=>?_;refine ev ?_)
    refine⟨by unfold B7;unfold lim at *;omega,?_⟩
    (apply O;clear O K;try simp only [A4,])
    have hb:=Ex.J9 x m (J.kids.2 x R);exact⟨(i+1,x.count m),⟨by simp only;omega,by simp only;omega,by simp only;unfold cap;omega,E⟩,by simp only;omega,by simp [sle,Aw,Ae],(by simp [ble,A7,Ce,])⟩
   ·rw [A6 W] at E;refine En L W Qp ?_;refine A0.ff rfl (A0.xx ?_);simp only [A4,Aa,Af];exact U _ _ (by simp [sle,Aw,Ae,E]) sB
  ·refine Ai L Qp fun Z u2=>?_;refine A0.ff rfl (A0.xx ?_);simp only [A4,Aa,Af];rw [Ig (by omega),Ex.C4] at E;exact U _ _ (by simp [sle,Aw,Ae,E]) sB
 refine sR Qp ?_;refine A0.bb (A0.loop (X:=Nat × Int) (fun x=>[(1,A9 x.2),(5,A9 x.1),(2,.box 2 0)]) (fun _=>[(2,.cells ((Ce e).map .d))])
  (fun x=>x.1≤e.targs.length∧0≤x.2∧x.2≤cap+100000000000000∧Ty.C4 (e.targs.drop x.1) x.2=Ty.C4 e.targs n1) (fun x=>e.targs.length - x.1) (0,n1) ?_ ?_ ?_ ?_)
 ·exact⟨by simp,by omega,by unfold cap at *;omega,by first| rfl| simp⟩
 ·simp [sle,Aw,Ae]
 ·exact (by simp [ble,A7,Ce,])
 rintro⟨i,m⟩ ⟨hi,V,a0,E⟩;simp only at hi V a0 E;by_cases L:(i:Int) < (e.targs.length:Int)
 ·have I:i < e.targs.length:=by omega
  have hx:e.targs[i]? = some e.targs[i]:=Ba I;have R:e.targs[i]∈e.targs:=F7 I;have dp:e.targs.drop i=e.targs[i]::e.targs.drop (i+1):=Fy I;generalize e.targs[i]=x at *;rw [dp,Ty.C4] at E;refine sK fun Z u2=>?_;by_cases W:m≤2000
  ·rw [A8 W] at E;refine En L W Qp ?_;refine A0.tt rfl (A0.kk (u2 _ _ ?_));clear u2 Z;refine sK fun Z u2=>?_;refine A0.bb ?_
   (refine lQ Qp fun K O=>?_;refine ev ?_)
   (refine⟨by omega,Bh x,F5 hx,rfl,?_⟩;refine ev ?_;refine⟨A9 (x.count m),.inl ⟨_,rfl,A2q x m V (by unfold cap;omega),rfl⟩,?_⟩;refine ev ?_)
   (apply O;clear O K;try simp only [A4,Aa])
   refine u2 _ _ ?_;clear u2 Z
   (refine lQ Qp fun K O=>?_;refine ev ?_)
   refine⟨by unfold B7;unfold lim at *;omega,?_⟩
   (apply O;clear O K;try simp only [A4,])
   have hb:=Ty.J9 x m (J.targs.2 x R);exact⟨(i+1,x.count m),⟨by simp only;omega,by simp only;omega,by simp only;unfold cap;omega,E⟩,by simp only;omega,by simp [sle,Aw,Ae],(by simp [ble,A7,Ce,])⟩
  ·rw [A6 W] at E;refine En L W Qp ?_;refine A0.ff rfl (A0.xx ?_);simp only [A4,Aa,Af];exact U _ _ (by simp [sle,Aw,Ae,E]) (by simp [ble,A7,Ce,])
 ·refine Ai L Qp fun Z u2=>?_;refine A0.ff rfl (A0.xx ?_);simp only [A4,Aa,Af];rw [Ig (by omega),Ty.C4] at E;exact U _ _ (by simp [sle,Aw,Ae,E]) (by simp [ble,A7,Ce,])
def C7:List Ak→Int→Int
 |[],n=>n
 |f::fs,n=>if n≤2000 then C7 fs (f.bound.count (n+1+((f.name.length / 50:Nat):Int))) else n
def D5:List Param→Int→Int
 |[],n=>n
 |f::fs,n=>if n≤2000 then D5 fs (f.type.count (n+1+((f.name.length / 50:Nat):Int))) else n
theorem D7q (f:Ak)(n:Int)(h:f.Ok):n≤f.bound.count (n+1+((f.name.length / 50:Nat):Int))∧f.bound.count (n+1+((f.name.length / 50:Nat):Int))≤max n 2000+6000000000000:=by have I:=Q4 h.name;have E:=Ty.J9 f.bound (n+1+((f.name.length / 50:Nat):Int)) h.bound;omega
theorem E0a (f:Param)(n:Int)(h:f.Ok):n≤f.type.count (n+1+((f.name.length / 50:Nat):Int))∧f.type.count (n+1+((f.name.length / 50:Nat):Int))≤max n 2000+6000000000000:=by have I:=Q4 h.name;have E:=Ty.J9 f.type (n+1+((f.name.length / 50:Nat):Int)) h.type;omega
theorem B2o:∀(l:List Ak)(n:Int),(∀t,t∈l→t.Ok)→n≤C7 l n∧C7 l n≤max n (2000+6000000000000)
 |[],n,_=>by simp only [C7];omega
 |t::I,n,h=>by
  simp only [C7];split
  ·have J:=D7q t n (h t (by simp));have L:=B2o I (t.bound.count (n+1+((t.name.length / 50:Nat):Int))) (fun u E=>h u (by simp [E]));omega
  ·omega
theorem B1z:∀(l:List Param)(n:Int),(∀t,t∈l→t.Ok)→n≤D5 l n∧D5 l n≤max n (2000+6000000000000)
 |[],n,_=>by simp only [D5];omega
 |t::I,n,h=>by
  simp only [D5];split
  ·have J:=E0a t n (h t (by simp));have L:=B1z I (t.type.count (n+1+((t.name.length / 50:Nat):Int))) (fun u E=>h u (by simp [E]));omega
  ·omega
abbrev q3r:List Nat:=[0,1,4,5,13]
theorem D7o (l:List Ak)(n:Int)(h0:0≤n)(h1:n≤cap - 100000000000000):Ac prog 143 [.d (.slice (Az l)),A9 n] (A9 (C7 l n)):=by
 refine Cd.bd (Enters.of func143 rfl (by decide)) fun a1=>?_;have L:=B2z a1.1;have hl:=L.1;refine cB func143 ?_;refine sR q3r ?_;refine sK fun K1 u1=>?_;have U:∀sl bx,sle sl [(1,A9 (C7 l n))]→ble bx []→K1 sl bx:=by intro sl bx h1 h2;refine u1 _ _ (A0.ww h1 h2 ?_);clear u1 K1;refine sR q3r ?_;exact aR
 refine sR q3r ?_;refine A0.bb (A0.loop (X:=Nat × Int) (fun x=>[(1,A9 x.2),(5,A9 x.1),(0,.d (.slice (Az l)))]) (fun _=>[])
  (fun x=>x.1≤l.length∧0≤x.2∧x.2≤cap+100000000000000∧C7 (l.drop x.1) x.2=C7 l n) (fun x=>l.length - x.1) (0,n) ?_ ?_ ?_ ?_)
 ·exact⟨by simp,by omega,by unfold cap at *;omega,by first| rfl| simp⟩
 ·simp [sle,Aw,Ae]
 ·exact sB
 rintro⟨i,m⟩ ⟨hi,a0,Z,E⟩;simp only at hi a0 Z E;by_cases O:(i:Int) < (l.length:Int)
 ·have I:i < l.length:=by omega
  have hx:l[i]? = some l[i]:=Ba I;have J:l[i]∈l:=F7 I;have dp:l.drop i=l[i]::l.drop (i+1):=Fy I;generalize l[i]=x at *;rw [dp,C7] at E;refine sK fun W u2=>?_;by_cases V:m≤2000
  ·rw [A8 V] at E;refine En O V q3r ?_;refine A0.tt rfl (A0.kk (u2 _ _ ?_));clear u2 W;refine sK fun W u2=>?_;refine A0.bb ?_
   (refine lG q3r [] 15 [] fun K R=>?_;simp -implicitDefEqProofs only [EV,Nat.reduceAdd,Nat.reduceEqDiff,reduceCtorEq,I9,A4e,C3b])
   (have hq:=Q4 (L.2 x J).name;refine⟨by omega,Ke x,Ep hx,rfl,?_⟩;refine ev ?_;refine⟨by unfold B7 cap at *;omega,by omega,Ke x,Ep hx,rfl,?_⟩;refine ev ?_;refine⟨(by first| (unfold B7;omega)| (simp only [B7,sm,lim] at *;omega)),by unfold B7 cap at *;omega,A9 (x.bound.count (m+1+((x.name.length / 50:Nat):Int))),.inl ⟨_,rfl,A2q _ _ (by omega) (by unfold cap at *;omega),rfl⟩,?_⟩;refine ev ?_)
   (apply R;clear R K;try simp only [A4,Aa])
   refine u2 _ _ ?_;clear u2 W
   (refine lQ q3r fun K R=>?_;refine ev ?_)
   refine⟨by unfold B7;unfold lim at *;omega,?_⟩
   (apply R;clear R K;try simp only [A4,])
   have hb:=D7q x m (L.2 x J);exact⟨(i+1,x.bound.count (m+1+((x.name.length / 50:Nat):Int))),⟨by simp only;omega,by simp only;omega,by simp only;unfold cap;omega,E⟩,by simp only;omega,by simp [sle,Aw,Ae],sB⟩
  ·rw [A6 V] at E;refine En O V q3r ?_;refine A0.ff rfl (A0.xx ?_);simp only [A4,Aa,Af];exact U _ _ (by simp [sle,Aw,Ae,E]) sB
 ·refine Ai O q3r fun W u2=>?_;refine A0.ff rfl (A0.xx ?_);simp only [A4,Aa,Af];rw [Ig (by omega),C7] at E;exact U _ _ (by simp [sle,Aw,Ae,E]) sB
abbrev q4r:List Nat:=[0,1,4,5,13]
theorem E1m (l:List Param)(n:Int)(h0:0≤n)(h1:n≤cap - 100000000000000):Ac prog 142 [.d (.slice (B5 l)),A9 n] (A9 (D5 l n)):=by
 refine Cd.bd (Enters.of func142 rfl (by decide)) fun a1=>?_;have L:=B1x a1.1;have hl:=L.1;refine cB func142 ?_;refine sR q4r ?_;refine sK fun K1 u1=>?_;have U:∀sl bx,sle sl [(1,A9 (D5 l n))]→ble bx []→K1 sl bx:=by intro sl bx h1 h2;refine u1 _ _ (A0.ww h1 h2 ?_);clear u1 K1;refine sR q4r ?_;exact aR
 refine sR q4r ?_;refine A0.bb (A0.loop (X:=Nat × Int) (fun x=>[(1,A9 x.2),(5,A9 x.1),(0,.d (.slice (B5 l)))]) (fun _=>[])
  (fun x=>x.1≤l.length∧0≤x.2∧x.2≤cap+100000000000000∧D5 (l.drop x.1) x.2=D5 l n) (fun x=>l.length - x.1) (0,n) ?_ ?_ ?_ ?_)
 ·exact⟨by simp,by omega,by unfold cap at *;omega,by first| rfl| simp⟩
 ·simp [sle,Aw,Ae]
 ·exact sB
 rintro⟨i,m⟩ ⟨hi,a0,Z,E⟩;simp only at hi a0 Z E;by_cases O:(i:Int) < (l.length:Int)
 ·have I:i < l.length:=by omega
  have hx:l[i]? = some l[i]:=Ba I;have J:l[i]∈l:=F7 I;have dp:l.drop i=l[i]::l.drop (i+1):=Fy I;generalize l[i]=x at *;rw [dp,D5] at E;refine sK fun W u2=>?_;by_cases V:m≤2000
  ·rw [A8 V] at E;refine En O V q4r ?_;refine A0.tt rfl (A0.kk (u2 _ _ ?_));clear u2 W;refine sK fun W u2=>?_;refine A0.bb ?_
   (refine lG q4r [] 15 [] fun K R=>?_;simp -implicitDefEqProofs only [EV,Nat.reduceAdd,Nat.reduceEqDiff,reduceCtorEq,I9,Uv,C0n])
   (have hq:=Q4 (L.2 x J).name;refine⟨by omega,Gc x,E7 hx,rfl,?_⟩;refine ev ?_;refine⟨by unfold B7 cap at *;omega,by omega,Gc x,E7 hx,rfl,?_⟩;refine ev ?_;refine⟨(by first| (unfold B7;omega)| (simp only [B7,sm,lim] at *;omega)),by unfold B7 cap at *;omega,A9 (x.type.count (m+1+((x.name.length / 50:Nat):Int))),.inl ⟨_,rfl,A2q _ _ (by omega) (by unfold cap at *;omega),rfl⟩,?_⟩;refine ev ?_)
   (apply R;clear R K;try simp only [A4,Aa])
   refine u2 _ _ ?_;clear u2 W
   (refine lQ q4r fun K R=>?_;refine ev ?_)
   refine⟨by unfold B7;unfold lim at *;omega,?_⟩
   (apply R;clear R K;try simp only [A4,])
   have hb:=E0a x m (L.2 x J);exact⟨(i+1,x.type.count (m+1+((x.name.length / 50:Nat):Int))),⟨by simp only;omega,by simp only;omega,by simp only;unfold cap;omega,E⟩,by simp only;omega,by simp [sle,Aw,Ae],sB⟩
  ·rw [A6 V] at E;refine En O V q4r ?_;refine A0.ff rfl (A0.xx ?_);simp only [A4,Aa,Af];exact U _ _ (by simp [sle,Aw,Ae,E]) sB
 ·refine Ai O q4r fun W u2=>?_;refine A0.ff rfl (A0.xx ?_);simp only [A4,Aa,Af];rw [Ig (by omega),D5] at E;exact U _ _ (by simp [sle,Aw,Ae,E]) sB
def A5.count (s:A5)(n:Int):Int:=s.result.count (D5 s.params (C7 s.A1 (n+((s.name.length / 50:Nat):Int))))
theorem A5.J9 (s:A5)(n:Int)(h:s.Ok):n≤s.count n∧s.count n≤max n 2000+10000000000000:=by have L:=Q4 h.name;have E:=B2o s.A1 (n+((s.name.length / 50:Nat):Int)) h.A1.2;have J:=B1z s.params (C7 s.A1 (n+((s.name.length / 50:Nat):Int))) h.params.2;have I:=Ty.J9 s.result (D5 s.params (C7 s.A1 (n+((s.name.length / 50:Nat):Int)))) h.result;unfold A5.count;omega
theorem D5x (s:A5)(n:Int)(L:0≤n)(U:n≤cap - 200000000000000):Ac prog 144 [Cx s,A9 n] (A9 (s.count n)):=by
 refine Cd.bd (Enters.of func144 rfl (by decide)) fun E=>?_;have h:=G2t E.1;have R:=Q4 h.name;have J:=B2o s.A1 (n+((s.name.length / 50:Nat):Int)) h.A1.2;have O:=B1z s.params (C7 s.A1 (n+((s.name.length / 50:Nat):Int))) h.params.2;refine cB func144 ?_;refine sR [0,1,2,4] ?_
 (refine sG [0,1,2,4] [] 14 [] fun K I=>?_;refine ev ?_)
 refine⟨(by first| (unfold B7;omega)| (simp only [B7,sm,lim] at *;omega)),by unfold B7 cap at *;omega,A9 (C7 s.A1 (n+((s.name.length / 50:Nat):Int))),.inl ⟨_,rfl,D7o _ _ (by omega) (by unfold cap at *;omega),rfl⟩,?_⟩;refine ev ?_;refine⟨A9 (D5 s.params (C7 s.A1 (n+((s.name.length / 50:Nat):Int)))),.inl ⟨_,rfl,E1m _ _ (by omega) (by unfold cap at *;omega),rfl⟩,?_⟩;refine ev ?_;refine⟨A9 (s.count n),.inl ⟨_,rfl,A2q _ _ (by omega) (by unfold cap at *;omega),rfl⟩,?_⟩;refine ev ?_
 (apply I;clear I K)
 exact aR
def Ii:List A3→Int→Int
 |[],n=>n
 |v::vs,n=>if n≤2000 then Ii vs (n+1+((v.length / 50:Nat):Int)) else n
def Eh:List A5→Int→Int
 |[],n=>n
 |s::ss,n=>if n≤2000 then Eh ss (s.count n) else n
def Decl.Ry (d:Decl)(n:Int):Int:=if n≤2000 then d.body.count (d.sig.count n) else n
def Decl.count (d:Decl)(n:Int):Int :=
 d.Ry (Ii d.vars (Eh d.sigs (D5 d.fields (C7 d.A1 (n+1+((d.name.length / 50:Nat):Int)+((d.recv.length / 50:Nat):Int))))))
def Ik:List Decl→Int→Int
 |[],n=>n
 |d::ds,n=>if n≤2000 then Ik ds (d.count n) else n
def Prog.count (p:Prog):Int:=Ik p.decls (p.main.count 0)
theorem C5c:∀(l:List A3)(n:Int),(∀t,t∈l→t.length≤lim)→n≤Ii l n∧Ii l n≤max n (2000+6000000000000)
 |[],n,_=>by simp only [Ii];omega
 |t::I,n,h=>by
  simp only [Ii];split
  ·have J:=Q4 (h t (by simp));have L:=C5c I (n+1+((t.length / 50:Nat):Int)) (fun u E=>h u (by simp [E]));omega
  ·omega
theorem C3n:∀(l:List A5)(n:Int),(∀t,t∈l→t.Ok)→n≤Eh l n∧Eh l n≤max n (2000+10000000000000)
 |[],n,_=>by simp only [Eh];omega
 |t::I,n,h=>by
  simp only [Eh];split
  ·have J:=A5.J9 t n (h t (by simp));have L:=C3n I (t.count n) (fun u E=>h u (by simp [E]));omega
  ·omega
theorem Decl.F2m (d:Decl)(n:Int)(h:d.Ok):n≤d.Ry n∧d.Ry n≤max n (2000+20000000000000):=by have I:=A5.J9 d.sig n h.sig;have E:=Ex.J9 d.body (d.sig.count n) h.body;unfold Decl.Ry;split <;> omega
theorem Decl.J9 (d:Decl)(n:Int)(h:d.Ok):n≤d.count n∧d.count n≤max n 2000+30000000000000:=by have V:=Q4 h.name;have I:=Q4 h.recv;unfold Decl.count;generalize O:n+1+((d.name.length / 50:Nat):Int)+((d.recv.length / 50:Nat):Int)=n0;have L:=B2o d.A1 n0 h.A1.2;have R:=B1z d.fields (C7 d.A1 n0) h.fields.2;have E:=C3n d.sigs (D5 d.fields (C7 d.A1 n0)) h.sigs.2;have J:=C5c d.vars (Eh d.sigs (D5 d.fields (C7 d.A1 n0))) h.vars.2;have U:=Decl.F2m d (Ii d.vars (Eh d.sigs (D5 d.fields (C7 d.A1 n0)))) h;omega
abbrev J8:List Nat:=[0,1,2,3,4,5,6,7,19,53,71,85]
set_option maxHeartbeats 2000000 in
theorem F2e (p:Prog):Ac prog 76 [Cv p] (A9 p.count):=by
 refine Cd.bd (Enters.of func76 rfl (by decide)) fun a8=>?_;have a3:=B1u a8.1;have he:=Ex.J9 p.main 0 a3.main;have hl:=a3.decls.1;have a1:p.count=Ik p.decls (p.main.count 0):=rfl;refine cB func76 ?_;refine sR J8 ?_
 (refine sQ J8 fun K L=>?_;refine ev ?_)
 refine⟨A9 (p.main.count 0),.inl ⟨_,rfl,C6i _ 0 (by omega) (by unfold cap;omega),rfl⟩,?_⟩;refine ev ?_
 (apply L;clear L K)
 generalize p.main.count 0=n1 at *;refine sK fun K1 u1=>?_;have O:∀sl bx,sle sl [(3,A9 (Ik p.decls n1))]→ble bx []→K1 sl bx:=by intro sl bx h1 h2;refine u1 _ _ (A0.ww h1 h2 ?_);clear u1 K1;refine sR J8 ?_;rw [a1];exact aR
 refine sR J8 ?_;refine A0.bb (A0.loop (X:=Nat × Int) (fun x=>[(3,A9 x.2),(4,A9 x.1),(1,.box 1 0)]) (fun _=>[(1,.cells ((Aj p).map .d))])
  (fun x=>x.1≤p.decls.length∧0≤x.2∧x.2≤100000000000000∧Ik (p.decls.drop x.1) x.2=Ik p.decls n1) (fun x=>p.decls.length - x.1) (0,n1) ?_ ?_ ?_ ?_)
 ·exact⟨by simp,by omega,by omega,by first| rfl| simp⟩
 ·exact sS
 ·exact (by simp [ble,A7,Aj])
 rintro⟨j,k⟩ ⟨hj,a7,a6,E⟩;simp only at hj a7 a6 E;by_cases R:(j:Int) < (p.decls.length:Int)
 ·have J:j < p.decls.length:=by omega
  have hy:p.decls[j]? = some p.decls[j]:=Ba J;have a4:p.decls[j]∈p.decls:=F7 J;have dp:p.decls.drop j=p.decls[j]::p.decls.drop (j+1):=Fy J;generalize p.decls[j]=y at *;have I:=a3.decls.2 y a4;rw [dp,Ik] at E;refine sK fun V u2=>?_;by_cases W:k≤2000
  ·rw [A8 W] at E;refine En R W J8 ?_;refine A0.tt rfl (A0.kk (u2 _ _ ?_));clear u2 V;refine sK fun V u2=>?_;have O:∀sl bx,sle sl [(3,A9 (y.count k)),(4,A9 j),(1,.box 1 0)]→ble bx [(1,.cells ((Aj p).map .d))]→V sl bx:=by
    intro sl bx h1 h2;refine u2 _ _ (A0.ww h1 h2 ?_);clear u2 V
    (refine lQ J8 fun K L=>?_;refine ev ?_)
    refine⟨by unfold B7;unfold lim at *;omega,?_⟩
    (apply L;clear L K;try simp only [A4,])
    have hb:=Decl.J9 y k I;exact⟨(j+1,y.count k),⟨by simp only;omega,by simp only;omega,by simp only;omega,E⟩,by simp only;omega,by simp [sle,Aw,Ae],(by simp [ble,A7,Aj])⟩
   clear u2;have a0:y.count k=y.Ry (Ii y.vars (Eh y.sigs (D5 y.fields (C7 y.A1 (k+1+((y.name.length / 50:Nat):Int)+((y.recv.length / 50:Nat):Int)))))):=rfl;generalize y.count k=res at *;have ah:=Q4 I.name;have a9:=Q4 I.recv;refine A0.bb ?_
   (refine sQ J8 fun K L=>?_;refine ev ?_)
   refine⟨by omega,Bc y,E2 hy,rfl,?_⟩;refine ev ?_
   (apply L;clear L K)
   (refine sG J8 [] 17 [] fun K L=>?_;simp -implicitDefEqProofs only [EV,Nat.reduceAdd,Nat.reduceEqDiff,Int.reduceEq,reduceCtorEq,M3,A4e,Uv,X0,])
   generalize ac:k+1+((y.name.length / 50:Nat):Int)+((y.recv.length / 50:Nat):Int)=n2 at *;have h3:=B2o y.A1 n2 I.A1.2;have h4:=B1z y.fields (C7 y.A1 n2) I.fields.2;refine⟨(by first| (unfold B7;omega)| (simp only [B7,sm,lim] at *;omega)),(by first| (unfold B7;omega)| (simp only [B7,sm,lim] at *;omega)),(by first| (unfold B7;omega)| (simp only [B7,sm,lim] at *;omega)),(by first| (unfold B7;omega)| (simp only [B7,sm,lim] at *;omega)),(by first| (unfold B7;omega)| (simp only [B7,sm,lim] at *;omega)),A9 (C7 y.A1 n2),.inl ⟨_,rfl,D7o _ _ (by omega) (by unfold cap;omega),rfl⟩,?_⟩;refine ev ?_;refine⟨A9 (D5 y.fields (C7 y.A1 n2)),.inl ⟨_,rfl,E1m _ _ (by omega) (by unfold cap;omega),rfl⟩,?_⟩;refine ev ?_
   (apply L;clear L K)
   generalize af:D5 y.fields (C7 y.A1 n2)=n3 at *;have ad:=I.sigs.1;have aa:=I.vars.1;have h5:=C3n y.sigs n3 I.sigs.2;have h6:=C5c y.vars (Eh y.sigs n3) I.vars.2;have ae:=A5.J9 y.sig (Ii y.vars (Eh y.sigs n3)) I.sig;have a':=Ex.J9 y.body (y.sig.count (Ii y.vars (Eh y.sigs n3))) I.body;refine sK fun K3 u3=>?_;have O:∀sl bx,sle sl [(3,A9 (Eh y.sigs n3)),(4,A9 j),(1,.box 1 0),(5,.box 5 0)]→ble bx [(1,.cells ((Aj p).map .d)),(5,.cells ((Bc y).map .d))]→K3 sl bx:=by
    intro sl bx h1 h2;refine u3 _ _ (A0.ww h1 h2 ?_);clear u3 K3;generalize ab:Eh y.sigs n3=n4 at *;refine sK fun K3 u3=>?_;have O:∀sl bx,sle sl [(3,A9 (Ii y.vars n4)),(4,A9 j),(1,.box 1 0),(5,.box 5 0)]→ble bx [(1,.cells ((Aj p).map .d)),(5,.cells ((Bc y).map .d))]→K3 sl bx:=by
     intro sl bx h1 h2;refine u3 _ _ (A0.ww h1 h2 ?_);clear u3 K3;generalize ag:Ii y.vars n4=n5 at *;refine sR J8 ?_;unfold Decl.Ry at a0;by_cases U:n5≤2000
     ·rw [A8 U] at a0;refine A0.tt (by simp [Ao,Ae,U]) ?_
      (refine lG J8 [] 6 [] fun K L=>?_;refine An U ?_)
      refine⟨A9 (y.sig.count n5),.inl ⟨_,rfl,D5x _ _ (by omega) (by unfold cap;omega),rfl⟩,?_⟩;refine ev ?_;refine⟨A9 (y.body.count (y.sig.count n5)),.inl ⟨_,rfl,C6i _ _ (by omega) (by unfold cap;omega),rfl⟩,?_⟩;refine ev ?_
      (apply L;clear L K;try simp only [A4,Aa])
      exact O _ _ (by simp [sle,Aw,Ae,a0]) (by simp [ble,A7,Aj])
     ·rw [A6 U] at a0;refine A0.ff (by simp [Ao,Ae,U]) (A0.kk ?_);simp only [A4,Aa];exact O _ _ (by simp [sle,Aw,Ae,a0]) (by simp [ble,A7,Aj])
    refine sR J8 ?_;refine A0.bb (A0.loop (X:=Nat × Int) (fun x=>[(3,A9 x.2),(7,A9 x.1),(4,A9 j),(1,.box 1 0),(5,.box 5 0)]) (fun _=>[(1,.cells ((Aj p).map .d)),(5,.cells ((Bc y).map .d))])
     (fun x=>x.1≤y.vars.length∧0≤x.2∧x.2≤cap+100000000000000∧Ii (y.vars.drop x.1) x.2=Ii y.vars n4) (fun x=>y.vars.length - x.1) (0,n4) ?_ ?_ ?_ ?_)
    ·exact⟨by simp,by omega,by unfold cap at *;omega,by first| rfl| simp⟩
    ·simp [sle,Aw,Ae]
    ·exact (by simp [ble,A7,Bc,Aj])
    rintro⟨i,m⟩ ⟨hi,a2,a5,E⟩;simp only at hi a2 a5 E;by_cases R:(i:Int) < (y.vars.length:Int)
    ·have J:i < y.vars.length:=by omega
     have hx:y.vars[i]? = some y.vars[i]:=Ba J;have Z:y.vars[i]∈y.vars:=F7 J;have dp:y.vars.drop i=y.vars[i]::y.vars.drop (i+1):=Fy J;generalize y.vars[i]=x at *;rw [dp,Ii] at E;refine sK fun V u2=>?_;by_cases W:m≤2000
     ·rw [A8 W] at E;refine En R W J8 ?_;refine A0.tt rfl (A0.kk (u2 _ _ ?_));clear u2 V;refine sK fun V u2=>?_;refine A0.bb ?_
      (refine lQ J8 fun K L=>?_;simp -implicitDefEqProofs only [EV,Nat.reduceEqDiff,reduceCtorEq,M3,C1d,X0,])
      (have hq:=Q4 (I.vars.2 x Z);refine⟨(by first| (unfold B7;omega)| (simp only [B7,sm,lim] at *;omega)),by omega,_,La hx,rfl,?_⟩;refine ev ?_;refine⟨(by first| (unfold B7;omega)| (simp only [B7,sm,lim] at *;omega)),by unfold B7 cap at *;omega,?_⟩)
      (apply L;clear L K;try simp only [A4,Aa])
      refine u2 _ _ ?_;clear u2 V
      (refine lQ J8 fun K L=>?_;refine ev ?_)
      refine⟨by unfold B7;unfold lim at *;omega,?_⟩
      (apply L;clear L K;try simp only [A4,])
      have hb:=Q4 (I.vars.2 x Z);exact⟨(i+1,m+1+((x.length / 50:Nat):Int)),⟨by simp only;omega,by simp only;omega,by simp only;unfold cap;omega,E⟩,by simp only;omega,by simp [sle,Aw,Ae],(by simp [ble,A7,Bc,Aj])⟩
     ·rw [A6 W] at E;refine En R W J8 ?_;refine A0.ff rfl (A0.xx ?_);simp only [A4,Aa,Af];exact O _ _ (by simp [sle,Aw,Ae,E]) (by simp [ble,A7,Bc,Aj])
    ·refine Ai R J8 fun V u2=>?_;refine A0.ff rfl (A0.xx ?_);simp only [A4,Aa,Af];rw [Ig (by omega),Ii] at E;exact O _ _ (by simp [sle,Aw,Ae,E]) (by simp [ble,A7,Bc,Aj])
   refine sR J8 ?_;refine A0.bb (A0.loop (X:=Nat × Int) (fun x=>[(3,A9 x.2),(6,A9 x.1),(4,A9 j),(1,.box 1 0),(5,.box 5 0)]) (fun _=>[(1,.cells ((Aj p).map .d)),(5,.cells ((Bc y).map .d))])
    (fun x=>x.1≤y.sigs.length∧0≤x.2∧x.2≤cap+100000000000000∧Eh (y.sigs.drop x.1) x.2=Eh y.sigs n3) (fun x=>y.sigs.length - x.1) (0,n3) ?_ ?_ ?_ ?_)
   ·exact⟨by simp,by omega,by unfold cap at *;omega,by first| rfl| simp⟩
   ·simp [sle,Aw,Ae]
   ·exact (by simp [ble,A7,Bc,Aj])
   rintro⟨i,m⟩ ⟨hi,a2,a5,E⟩;simp only at hi a2 a5 E;by_cases R:(i:Int) < (y.sigs.length:Int)
   ·have J:i < y.sigs.length:=by omega
    have hx:y.sigs[i]? = some y.sigs[i]:=Ba J;have Z:y.sigs[i]∈y.sigs:=F7 J;have dp:y.sigs.drop i=y.sigs[i]::y.sigs.drop (i+1):=Fy J;generalize y.sigs[i]=x at *;rw [dp,Eh] at E;refine sK fun V u2=>?_;by_cases W:m≤2000
    ·rw [A8 W] at E;refine En R W J8 ?_;refine A0.tt rfl (A0.kk (u2 _ _ ?_));clear u2 V;refine sK fun V u2=>?_;refine A0.bb ?_
     (refine lQ J8 fun K L=>?_;refine ev ?_)
     (refine⟨by omega,Eu x,E1 hx,rfl,?_⟩;refine ev ?_;refine⟨A9 (x.count m),.inl ⟨_,rfl,D5x x m a2 (by unfold cap;omega),rfl⟩,?_⟩;refine ev ?_)
     (apply L;clear L K;try simp only [A4,Aa])
     refine u2 _ _ ?_;clear u2 V
     (refine lQ J8 fun K L=>?_;refine ev ?_)
     refine⟨by unfold B7;unfold lim at *;omega,?_⟩
     (apply L;clear L K;try simp only [A4,])
     have hb:=A5.J9 x m (I.sigs.2 x Z);exact⟨(i+1,x.count m),⟨by simp only;omega,by simp only;omega,by simp only;unfold cap;omega,E⟩,by simp only;omega,by simp [sle,Aw,Ae],(by simp [ble,A7,Bc,Aj])⟩
    ·rw [A6 W] at E;refine En R W J8 ?_;refine A0.ff rfl (A0.xx ?_);simp only [A4,Aa,Af];exact O _ _ (by simp [sle,Aw,Ae,E]) (by simp [ble,A7,Bc,Aj])
   ·refine Ai R J8 fun V u2=>?_;refine A0.ff rfl (A0.xx ?_);simp only [A4,Aa,Af];rw [Ig (by omega),Eh] at E;exact O _ _ (by simp [sle,Aw,Ae,E]) (by simp [ble,A7,Bc,Aj])
  ·rw [A6 W] at E;refine En R W J8 ?_;refine A0.ff rfl (A0.xx ?_);simp only [A4,Aa,Af];exact O _ _ (by simp [sle,Aw,Ae,E]) sB
 ·refine Ai R J8 fun V u2=>?_;refine A0.ff rfl (A0.xx ?_);simp only [A4,Aa,Af];rw [Ig (by omega),Ik] at E;exact O _ _ (by simp [sle,Aw,Ae,E]) sB
theorem Prog.J9 (p:Prog)(h:p.Ok):0≤p.count:=by
 have U:=(Ex.J9 p.main 0 h.main).1;have J:∀(l:List Decl) (n:Int),(∀d,d∈l→d.Ok)→n≤Ik l n:=by
  intro l
  induction l with
  |nil=>intro n _;simp [Ik]
  |cons d l L =>
   intro n E;simp only [Ik];split
   ·have O:=Decl.J9 d n (E d (by simp));have R:=L (d.count n) (fun u I=>E u (by simp [I]));omega
   ·omega
 have O:=J p.decls (p.main.count 0) h.decls.2;unfold Prog.count;omega
theorem E8k (p:Prog):Ac prog 35 [Cv p] (B0 (decide (p.count≤600))):=by refine cB func35 ?_;refine sR [0,1,2] ?_;refine sC (F2e p) [0,1,2] ?_;exact aR
def Decl.Iu (d:Decl)(E:A3):Bool:=(decide (d.kind=1) ||decide (d.kind=2)) && decide (d.name=E)
def findD (E:A3):List Decl→Nat→Int
 |[],_=>-1
 |d::ds,i=>if d.Iu E=true then i else findD E ds (i+1)
abbrev Qc:List Nat:=[0,1,2,4,5,10,38]
theorem A5t (p:Prog)(O:A3):Ac prog 54 [Cv p,C8 O] (A9 (findD O p.decls 0)):=by
 refine Cd.bd (Enters.of func54 rfl (by decide)) fun a2=>?_;have a1:=B1u a2.1;have hl:=a1.decls.1;refine cB func54 ?_;refine sR Qc ?_;refine sK fun K1 u1=>?_;have a0:∀sl bx,findD O p.decls 0 = -1→K1 sl bx:=by intro sl bx h1;refine u1 _ _ (A0.ww (sl':=[]) (bx':=[]) trivial trivial ?_);clear u1 K1;refine sR Qc ?_;rw [h1];exact aR
 refine sR Qc ?_;refine A0.bb (A0.loop (X:=Nat) (fun x=>[(5,A9 x),(1,C8 O),(2,.box 2 0)]) (fun _=>[(2,.cells ((Aj p).map .d))])
  (fun x=>x≤p.decls.length∧findD O (p.decls.drop x) x=findD O p.decls 0) (fun x=>p.decls.length - x) 0 ?_ ?_ ?_ ?_)
 ·exact⟨by simp,rfl⟩
 ·exact sS
 ·exact (by simp [ble,A7,Aj])
 rintro j ⟨hj,E⟩;by_cases Z:(j:Int) < (p.decls.length:Int)
 ·have U:j < p.decls.length:=by omega
  have W:p.decls[j]? = some p.decls[j]:=Ba U;have dp:p.decls.drop j=p.decls[j]::p.decls.drop (j+1):=Fy U;generalize p.decls[j]=y at *;rw [dp,findD] at E;refine Ai Z Qc fun V u2=>?_;refine A0.tt rfl (A0.kk (u2 _ _ ?_));clear u2 V;refine sK fun V u2=>?_;refine A0.bb ?_;by_cases J:y.kind=1
  ·by_cases R:y.name=O
   ·(refine sQ Qc fun K I=>?_;simp -implicitDefEqProofs only [EV,Nat.reduceEqDiff,reduceCtorEq,Jw,A0m,Vs,X0,])
    repeat (refine⟨by omega,Bc y,E2 W,rfl,?_⟩;refine Gj J R ?_)
    (apply I;clear I K)
    have ht:y.Iu O=true:=by simp [Decl.Iu,J,R]
    rw [A8 ht] at E;refine A0.tt rfl ?_;refine sR Qc ?_;rw [←E];exact aR
   ·(refine sQ Qc fun K I=>?_;simp -implicitDefEqProofs only [EV,Nat.reduceEqDiff,reduceCtorEq,Jw,A0m,Vs,X0,])
    repeat (refine⟨by omega,Bc y,E2 W,rfl,?_⟩;refine Gj J R ?_)
    (apply I;clear I K)
    have ht:¬y.Iu O=true:=by simp [Decl.Iu,J,R]
    rw [A6 ht] at E;refine A0.ff rfl (A0.kk ?_);simp only [A4,Aa];refine u2 _ _ ?_;clear u2 V
    (refine lQ Qc fun K I=>?_;refine ev ?_)
    refine⟨by unfold B7;unfold lim at *;omega,?_⟩
    (apply I;clear I K;try simp only [A4,])
    exact⟨j+1,⟨by omega,E⟩,by omega,by simp [sle,Aw,Ae],(by simp [ble,A7,Aj])⟩
  ·by_cases L:y.kind=2
   ·by_cases R:y.name=O
    ·(refine sQ Qc fun K I=>?_;simp -implicitDefEqProofs only [EV,Nat.reduceEqDiff,reduceCtorEq,Jw,A0m,Vs,X0,])
     repeat (refine⟨by omega,Bc y,E2 W,rfl,?_⟩;refine Gj L R ?_)
     (apply I;clear I K)
     have ht:y.Iu O=true:=by simp [Decl.Iu,L,R]
     rw [A8 ht] at E;refine A0.tt rfl ?_;refine sR Qc ?_;rw [←E];exact aR
    ·(refine sQ Qc fun K I=>?_;simp -implicitDefEqProofs only [EV,Nat.reduceEqDiff,reduceCtorEq,Jw,A0m,Vs,X0,])
     repeat (refine⟨by omega,Bc y,E2 W,rfl,?_⟩;refine Gj L R ?_)
     (apply I;clear I K)
     have ht:¬y.Iu O=true:=by simp [Decl.Iu,L,R]
     rw [A6 ht] at E;refine A0.ff rfl (A0.kk ?_);simp only [A4,Aa];refine u2 _ _ ?_;clear u2 V
     (refine lQ Qc fun K I=>?_;refine ev ?_)
     refine⟨by unfold B7;unfold lim at *;omega,?_⟩
     (apply I;clear I K;try simp only [A4,])
     exact⟨j+1,⟨by omega,E⟩,by omega,by simp [sle,Aw,Ae],(by simp [ble,A7,Aj])⟩
   ·(refine sQ Qc fun K I=>?_;simp -implicitDefEqProofs only [EV,Nat.reduceEqDiff,reduceCtorEq,Jw,A0m,Vs,X0,])
    repeat (refine⟨by omega,Bc y,E2 W,rfl,?_⟩;refine Gj J L ?_)
    (apply I;clear I K)
    have ht:¬y.Iu O=true:=by simp [Decl.Iu,J,L]
    rw [A6 ht] at E;refine A0.ff rfl (A0.kk ?_);simp only [A4,Aa];refine u2 _ _ ?_;clear u2 V
    (refine lQ Qc fun K I=>?_;refine ev ?_)
    refine⟨by unfold B7;unfold lim at *;omega,?_⟩
    (apply I;clear I K;try simp only [A4,])
    exact⟨j+1,⟨by omega,E⟩,by omega,by simp [sle,Aw,Ae],(by simp [ble,A7,Aj])⟩
 ·refine Ai Z Qc fun V u2=>?_;refine A0.ff rfl (A0.xx ?_);simp only [A4,Aa,Af];rw [Ig (by omega),findD] at E;exact a0 _ _ E.symm
def kindOf (p:Prog)(E:A3):Int:=match p.decls.find? (fun d=>d.Iu E) with
 |some d=>d.kind
 |none=>0
theorem A7z (E:A3):∀(l:List Decl)(i:Nat),(findD E l i = -1∧l.find? (fun d=>d.Iu E)=none)∨∃k d,l[k]? = some d∧findD E l i=((i+k:Nat):Int)∧l.find? (fun d=>d.Iu E)=some d
 |[],i=>by simp [findD]
 |d::ds,i=>by
  simp only [findD,Av3];split
  ·rename_i h;exact .inr ⟨0,d,rfl,rfl,by simp [h]⟩
  ·rename_i h;rcases A7z E ds (i+1) with ⟨J,I⟩| ⟨k,O,J,I,L⟩
   ·exact .inl ⟨J,by simp [h,I]⟩
   ·exact .inr ⟨k+1,O,by simpa using J,by rw [I];congr 1;omega,by simp [h,L]⟩
abbrev q7r:List Nat:=[0,1,2,4,5,10]
theorem A4y (p:Prog)(E:A3):Ac prog 19 [Cv p,C8 E] (A9 (kindOf p E)):=by
 refine Cd.bd (Enters.of func19 rfl (by decide)) fun O=>?_;have J:=B1u O.1;have hl:=J.decls.1;refine cB func19 ?_;refine sR q7r ?_;refine sC (A5t p E) q7r ?_;refine sK fun K1 u1=>?_;rcases A7z E p.decls 0 with ⟨R,I⟩| ⟨k,d,R,I,W⟩
 ·rw [R];have L:kindOf p E=0:=by simp [kindOf,I]
  refine sR q7r ?_;refine A0.tt rfl ?_;refine sR q7r ?_;rw [L];exact aR
 ·rw [I];have L:kindOf p E=d.kind:=by simp [kindOf,W]
  have Z:¬((0+k:Nat):Int) < 0:=by omega
  have V:((0+k:Nat):Int).toNat=k:=by omega
  refine sR q7r ?_;refine A0.ff rfl (A0.kk (u1 _ _ ?_));clear u1 K1
  (refine sQ q7r fun K U=>?_;refine ev ?_)
  refine⟨by omega,Bc d,E2 R,rfl,?_⟩;refine ev ?_
  (apply U;clear U K)
  rw [L];exact aR
abbrev q8r:List Nat:=[0,1,4,5,9,17]
theorem A5p (l:List A3)(s:A3):Ac prog 220 [Ct l,C8 s] (B0 (decide (s∈l))):=by
 refine Cd.bd (Enters.of func220 rfl (by decide)) fun V=>?_;have hl:=(B2t V.1).1;refine cB func220 ?_;refine sR q8r ?_;refine sK fun K1 u1=>?_;have U:∀sl bx,¬s∈l→K1 sl bx:=by intro sl bx h1;refine u1 _ _ (A0.ww (sl':=[]) (bx':=[]) trivial trivial ?_);clear u1 K1;refine sR q8r ?_;rw [Ci h1];exact aR
 refine sR q8r ?_;refine A0.bb (A0.loop (X:=Nat) (fun x=>[(5,A9 x),(0,Ct l),(1,C8 s)]) (fun _=>[])
  (fun x=>x≤l.length∧(s∈l↔s∈l.drop x)) (fun x=>l.length - x) 0 ?_ ?_ ?_ ?_)
 ·exact⟨by simp,by simp⟩
 ·exact sS
 ·exact sB
 rintro j ⟨hj,E⟩;by_cases L:(j:Int) < (l.length:Int)
 ·have I:j < l.length:=by omega
  have W:l[j]? = some l[j]:=Ba I;have Z:l[j]∈l:=F7 I;have dp:l.drop j=l[j]::l.drop (j+1):=Fy I;generalize l[j]=y at *;rw [dp,As] at E;refine Ai L q8r fun R u2=>?_;refine A0.tt rfl (A0.kk (u2 _ _ ?_));clear u2 R;refine sK fun R u2=>?_;refine A0.bb ?_;by_cases O:y=s
  ·(refine sQ q8r fun K J=>?_;refine ev ?_)
   refine⟨by omega,_,La W,rfl,?_⟩;refine An O ?_
   (apply J;clear J K)
   refine A0.tt rfl ?_;refine sR q8r ?_;rw [Bn (E.2 (.inl O.symm))];exact aR
  ·(refine sQ q8r fun K J=>?_;refine ev ?_)
   refine⟨by omega,_,La W,rfl,?_⟩;refine An O ?_
   (apply J;clear J K)
   refine A0.ff rfl (A0.kk ?_);simp only [A4,Aa];refine u2 _ _ ?_;clear u2 R
   (refine lQ q8r fun K J=>?_;refine ev ?_)
   refine⟨by unfold B7;unfold lim at *;omega,?_⟩
   (apply J;clear J K;try simp only [A4,])
   exact⟨j+1,⟨by omega,by rw [E];exact⟨fun h=>h.resolve_left (fun h=>O h.symm),.inr⟩⟩,by omega,by simp [sle,Aw,Ae],sB⟩
 ·refine Ai L q8r fun R u2=>?_;refine A0.ff rfl (A0.xx ?_);simp only [A4,Aa,Af];rw [Ig (by omega)] at E;exact U _ _ (by rw [E];simp)
def Bp:A3→A3→Int
 |[],[]=>0
 |[],_::_=>-1
 |_::_,[]=>1
 |x::xs,y::ys=>if x < y then -1 else if y < x then 1 else Bp xs ys
abbrev P0:List Nat:=[0,1,4,5,15,24,31,36,41]
theorem A9n (a b:A3):Ac prog 28 [C8 a,C8 b] (A9 (Bp a b)):=by
 refine Cd.bd (Enters.of func28 rfl (by decide)) fun a1=>?_;have a4:=U0 a1.1;have a5:=U0 a1.2.1;refine cB func28 ?_;refine sR P0 ?_;refine sK fun W u1=>?_;have a0:∀sl bx,sle sl [(0,C8 a),(1,C8 b)]→(Bp a b=if (a.length:Int) < b.length then -1 else if (b.length:Int) < a.length then 1 else 0)→W sl bx:=by
  intro sl bx a2 hc;refine u1 _ _ (A0.ww (bx':=[]) a2 trivial ?_);clear u1 W;refine sK fun W u1=>?_;by_cases Z:(a.length:Int) < b.length
  ·refine Ah Z P0 ?_;refine A0.tt rfl ?_;refine sR P0 ?_;rw [hc,A8 Z];exact aR
  ·refine Ah Z P0 ?_;refine A0.ff rfl (A0.kk (u1 _ _ ?_));clear u1 W;refine sK fun W u1=>?_;by_cases h2:(b.length:Int) < a.length
   ·refine Ah h2 P0 ?_;refine A0.tt rfl ?_;refine sR P0 ?_;rw [hc,A6 Z,A8 h2];exact aR
   ·refine Ah h2 P0 ?_;refine A0.ff rfl (A0.kk (u1 _ _ ?_));clear u1 W;refine sR P0 ?_;rw [hc,A6 Z,A6 h2];exact aR
 refine sR P0 ?_;refine A0.bb (A0.loop (X:=Nat) (fun x=>[(5,A9 x),(0,C8 a),(1,C8 b)]) (fun _=>[])
  (fun x=>x≤a.length∧x≤b.length∧Bp (a.drop x) (b.drop x)=Bp a b) (fun x=>a.length - x) 0 ?_ ?_ ?_ ?_)
 ·exact⟨by simp,by simp,rfl⟩
 ·exact sS
 ·exact sB
 rintro j ⟨hj,a3,E⟩;by_cases V:(j:Int) < (a.length:Int)
 ·by_cases R:(j:Int) < (b.length:Int)
  ·have U:j < a.length:=by omega
   have I:j < b.length:=by omega
   have hx:a[j]? = some a[j]:=Ba U;have hy:b[j]? = some b[j]:=Ba I;rw [Fy U,Fy I,Bp] at E;generalize a[j]=x at *;generalize b[j]=y at *;refine Wc V R P0 fun K2 u2=>?_;refine A0.tt rfl (A0.kk (u2 _ _ ?_));clear u2 K2;refine sK fun K2 u2=>?_;refine A0.bb ?_;refine sK fun K3 u3=>?_
   (refine sG P0 [] 6 [] fun K O=>?_;refine ev ?_)
   refine⟨by omega,x,hx,by omega,y,hy,?_⟩
   (apply O;clear O K)
   have e1:∀u v:UInt8,(u.toNat:Int) < v.toNat↔u < v:=fun u v=>by rw [Ye];omega
   simp only [e1];by_cases L:x < y
   ·rw [A8 L] at E;refine A0.tt (by simp [Ao,Ae,L]) ?_;refine sR P0 ?_;rw [←E];exact aR
   ·rw [A6 L] at E;refine A0.ff (by simp [Ao,Ae,L]) (A0.kk ?_);simp only [A4,];refine u3 _ _ ?_;clear u3 K3
    (refine sG P0 [] 6 [] fun K O=>?_;refine ev ?_)
    refine⟨by omega,x,hx,by omega,y,hy,?_⟩
    (apply O;clear O K)
    simp only [e1];by_cases J:y < x
    ·rw [A8 J] at E;refine A0.tt (by simp [Ao,Ae,J]) ?_;refine sR P0 ?_;rw [←E];exact aR
    ·rw [A6 J] at E;refine A0.ff (by simp [Ao,Ae,J]) (A0.kk ?_);simp only [A4,Aa];refine u2 _ _ ?_;clear u2 K2
     (refine lQ P0 fun K O=>?_;refine ev ?_)
     refine⟨by unfold B7;unfold lim at *;omega,?_⟩
     (apply O;clear O K;try simp only [A4,])
     exact⟨j+1,⟨by omega,by omega,E⟩,by omega,by simp [sle,Aw,Ae],sB⟩
  ·refine Wc V R P0 fun K2 u2=>?_;refine A0.ff rfl (A0.xx ?_);simp only [A4,Aa,Af];have hd:b.drop j=[]:=Ig (by omega);rw [hd,Fy (show j < a.length by omega),Bp] at E;exact a0 _ _ sS (by rw [←E,A6 (by omega),A8 (by omega)])
 ·refine Ai V P0 fun K2 u2=>?_;refine A0.ff rfl (A0.xx ?_);simp only [A4,Aa,Af];have hd:a.drop j=[]:=Ig (by omega);rw [hd] at E;refine a0 _ _ sS ?_;rw [←E];by_cases hb:j < b.length
  ·rw [Fy hb,Bp,A8 (by omega)]
  ·rw [Ig (by omega),Bp,A6 (by omega),A6 (by omega)]
def ins (s:A3):List A3→List A3
 |[]=>[s]
 |x::xs=>if Bp s x < 0 then s::x::xs else x::ins s xs
def U2 (l:List A3)(s:A3):List A3:=if s∈l then l else ins s l
theorem C3m (s:A3):∀l,(ins s l).length=l.length+1
 |[]=>rfl
 |x::xs=>by simp only [ins];split <;> simp [C3m s xs]
abbrev Mz:List Nat:=[0,1,4,5,6,7,10,15,28,41]
theorem F0w (l:List A3)(s:A3)(a2:l.length≤1000000):Ac prog 359 [Ct l,C8 s] (Ct (U2 l s)):=by
 refine cB func359 ?_;refine sR Mz ?_;refine kC (A5p l s) Mz fun V u1=>?_;by_cases L:s∈l
 ·refine A0.tt (by simp [Ao,Ae,L]) ?_;refine sR Mz ?_;rw [U2,A8 L];exact aR
 refine A0.ff (by simp [Ao,Ae,L]) (A0.kk (u1 _ _ ?_));clear u1 V;refine sR Mz ?_;refine sR Mz ?_;refine A0.pp 5 1 5 rfl ?_;refine sK fun V u1=>?_;have a1:∀sl bx (b:Bool) r,sle sl [(1,C8 s),(5,.acc 5),(6,B0 b)]→ble bx [(5,.rows 1 (C6 r))]→r.length≤l.length+1→(if b then r else r++[s])=ins s l→V sl bx:=by
  intro sl bx b r Z h2 hr hb;refine u1 _ _ (A0.ww Z h2 ?_);clear u1 V Z h2;refine kR Mz fun V u1=>?_;cases b with
  |true =>refine A0.ff rfl (A0.kk (u1 _ _ ?_));clear u1 V;refine sR Mz ?_;simp only [Af] at hb;rw [U2,A6 L,←hb];exact aR
  |false =>
   refine A0.tt rfl ?_
   (refine lQ Mz fun K I=>?_;refine ev ?_)
   refine⟨by simp,by unfold lim;omega,?_⟩
   (apply I;clear I K;try simp only [A4,])
   refine u1 _ _ ?_;clear u1 V;refine sR Mz ?_;have e:C6 r++[[D.str s]]=C6 (r++[s]):=by simp [C6]
   simp only [Hh,Et] at hb;rw [U2,A6 L,←hb,e];exact aR
 refine sR Mz ?_;refine A0.bb (A0.loop (X:=Nat × Bool × List A3) (fun x=>[(7,A9 x.1),(0,Ct l),(1,C8 s),(5,.acc 5),(6,B0 x.2.1)]) (fun x=>[(5,.rows 1 (C6 x.2.2))])
  (fun x=>x.1≤l.length∧x.2.2++(if x.2.1 then l.drop x.1 else ins s (l.drop x.1))=ins s l) (fun x=>l.length - x.1) (0,false,[]) ?_ ?_ ?_ ?_)
 ·exact⟨by simp,by simp⟩
 ·exact sS
 ·simp [ble,A7,C6]
 rintro⟨j,b,r⟩ ⟨hj,E⟩;simp only at hj E;have O:=K9 List.length E;simp only [B3,C3m] at O;have U:r.length=if b then j+1 else j:=by
  cases b
  ·simp only [Hh,Et,C3m,Ao8] at O ⊢;omega
  ·simp only [Af,Ao8] at O ⊢;omega
 clear O;by_cases a0:(j:Int) < (l.length:Int)
 ·have R:j < l.length:=by omega
  have hy:l[j]? = some l[j]:=Ba R;have dp:l.drop j=l[j]::l.drop (j+1):=Fy R;generalize l[j]=y at *;rw [dp] at E;refine Ai a0 Mz fun K2 u2=>?_;refine A0.tt rfl (A0.kk (u2 _ _ ?_));clear u2 K2;refine sK fun K2 u2=>?_;refine A0.bb ?_;refine sK fun K3 u3=>?_;have J:∀sl bx (b':Bool) W,sle sl [(7,A9 j),(0,Ct l),(1,C8 s),(5,.acc 5),(6,B0 b')]→ble bx [(5,.rows 1 (C6 W))]→W.length≤l.length→W++y::(if b' then l.drop (j+1) else ins s (l.drop (j+1)))=ins s l→K3 sl bx:=by
   intro sl bx b' W Z h2 a4 h3;refine u3 _ _ (A0.ww Z h2 ?_);clear u3 K3 Z h2
   (refine lQ Mz fun K I=>?_;refine ev ?_)
   refine⟨by omega,_,La hy,rfl,?_⟩;refine ev ?_;refine⟨by simp,by unfold lim;omega,?_⟩
   (apply I;clear I K;try simp only [A4,Aa])
   refine u2 _ _ ?_;clear u2 K2
   (refine lQ Mz fun K I=>?_;refine ev ?_)
   refine⟨by unfold B7;omega,?_⟩
   (apply I;clear I K;try simp only [A4,])
   exact⟨(j+1,b',W++[y]),⟨by simp only;omega,by simpa using h3⟩,by simp only;omega,by simp [sle,Aw,Ae],by simp [ble,A7,C6]⟩
  clear u3 u2;cases b with
  |true =>simp only [Af] at E U;refine sR Mz ?_;refine A0.ff rfl (A0.kk ?_);simp only [A4,];exact J _ _ true r sS sB (by omega) E
  |false =>
   simp only [Hh,Et,ins] at E U
   (refine sQ Mz fun K I=>?_;refine ev ?_)
   refine⟨by omega,_,La hy,rfl,?_⟩;refine ev ?_;refine⟨A9 (Bp s y),.inl ⟨_,rfl,A9n s y,rfl⟩,?_⟩;refine ev ?_
   (apply I;clear I K)
   by_cases hc:Bp s y < 0
   ·rw [A8 hc] at E;refine A0.tt (by simp [Ao,Ae,hc]) ?_;have a3:r.length≤l.length:=by omega
    have e:C6 r++[[D.str s]]=C6 (r++[s]):=by simp [C6]
    (refine sQ Mz fun K I=>?_;refine ev ?_)
    refine⟨by simp,by unfold lim;omega,?_⟩;rw [e]
    (apply I;clear I K)
    (refine lV Mz fun K z=>?_;apply z;clear z K;try simp only [A4,])
    exact J _ _ true (r++[s]) sS sB (by simp only [B3,Bg,Ch];omega) (by simpa using E)
   ·rw [A6 hc] at E;refine A0.ff (by simp [Ao,Ae,hc]) (A0.kk ?_);simp only [A4,];exact J _ _ false r sS sB (by omega) (by simpa using E)
 ·refine Ai a0 Mz fun K2 u2=>?_;refine A0.ff rfl (A0.xx ?_);simp only [A4,Aa,Af];rw [Ig (by omega)] at E;exact a1 _ _ b r sS sB (by cases b <;> simp only [Af,Hh,Et] at U <;> omega) (by rw [←E];cases b <;> simp [ins])
mutual
def Ty.structs (p:Prog):Ty→List A3→List A3
 |.mk n a _,acc=>if kindOf p n=1 then Ty.T5 p a (U2 acc n) else acc
def Ty.T5 (p:Prog):List Ty→List A3→List A3
 |[],acc=>acc
 |t::E,acc=>Ty.T5 p E (t.structs p acc)
end
theorem Ty.G5c (p:Prog)(t:Ty)(acc:List A3):t.structs p acc=if kindOf p t.name=1 then Ty.T5 p t.args (U2 acc t.name) else acc:=by cases t;rfl
structure Fc (p:Prog)(l:List A3):Prop where
 nodup:l.Nodup
 isS:∀s,s∈l→kindOf p s=1
variable {s:A3}
theorem F8n {p:Prog} (h:kindOf p s=1):s∈p.decls.map Decl.name:=by
 unfold kindOf at h;split at h
 ·rename_i d hd;have I:=An1 hd;have E:=Av4 hd;simp only [Decl.Iu,B1,D8] at E;exact Ax.2 ⟨d,I,E.2⟩
 ·simp at h
theorem B4m {α:Type} [DecidableEq α]:∀{l m:List α},l.Nodup→(∀x,x∈l→x∈m)→l.length≤m.length
 |[],_,_,_=>by simp
 |x::l,m,h,hs=>by have I:=hs x (by simp);obtain⟨O,J⟩:=Ys.1 h;have L:l.length≤(m.erase x).length:=B4m J fun y E=>(List.mem_erase_of_ne (by rintro rfl;exact O E)).2 (hs y (by simp [E]));rw [List.length_erase_of_mem I] at L;have:=List.length_pos_of_mem I;simp only [Bg];omega
theorem Fc.len {p:Prog} {l:List A3} (h:Fc p l):l.length≤p.decls.length:=by have:=B4m h.nodup fun s hs=>F8n (h.isS s hs);simpa using this
theorem Fc.nil (p:Prog):Fc p []:=⟨by simp,by simp⟩
theorem E2k {s x:A3} :∀{l:List A3},x∈ins s l↔x=s∨x∈l
 |[]=>by simp [ins]
 |y::ys=>by
  simp only [ins];split
  ·simp
  ·simp only [As,E2k];constructor
   ·rintro (h| h| h) <;> simp [h]
   ·rintro (h| h| h) <;> simp [h]
theorem C7u {s x:A3} {l:List A3} :x∈U2 l s↔x=s∨x∈l:=by
 unfold U2;split
 ·constructor
  ·exact .inr
  ·rintro (rfl| h)
   ·assumption
   ·exact h
 ·exact E2k
theorem D6s (s:A3):∀l:List A3,(ins s l).Perm (s::l)
 |[]=>.refl _
 |y::ys=>by
  simp only [ins];split
  ·exact .refl _
  ·exact ((D6s s ys).cons y).trans (.swap s y ys)
theorem G2n {l:List A3} (h:l.Nodup):(U2 l s).Nodup:=by
 unfold U2;split
 ·exact h
 ·rename_i hs;rw [(D6s s l).nodup_iff];exact Ys.2 ⟨hs,h⟩
theorem Fc.put {p:Prog} {l:List A3} (h:Fc p l)(hs:kindOf p s=1):Fc p (U2 l s) :=
 ⟨G2n h.nodup,fun x hx=>by
  rcases C7u.1 hx with rfl| hx
  ·exact hs
  ·exact h.isS x hx⟩
mutual
theorem Fc.structs {p:Prog}:∀(t:Ty) {l:List A3},Fc p l→Fc p (t.structs p l)
 |.mk n a q,l,h=>by
  simp only [Ty.structs];split
  ·exact Fc.T5 a (h.put (by assumption))
  ·exact h
theorem Fc.T5 {p:Prog}:∀(E:List Ty) {l:List A3},Fc p l→Fc p (Ty.T5 p E l)
 |[],_,h=>h
 |t::E,_,h=>Fc.T5 E (Fc.structs t h)
end
abbrev X7:List Nat:=[0,1,2,3,4,6,7,12,22]
theorem G4j (p:Prog)(hp:p.decls.length≤100000):∀(t:Ty)(acc:List A3),Fc p acc→Ac prog 325 [Cv p,Be t,Ct acc] (Ct (t.structs p acc)):=by
 intro t
 induction t using Ty.induct with
 |h t ih =>
 intro acc L;refine Cd.bd (Enters.of func325 rfl (by decide)) fun a2=>?_;have a0:=E3j a2.2.1;have hl:=a0.len;have E:=Ty.G5c p t acc;refine cB func325 ?_;refine sR X7 ?_;refine kC (A4y p t.name) X7 fun Z u1=>?_;by_cases U:kindOf p t.name=1;rotate_left
 ·refine A0.tt (by simp [Ao,Ae,U]) ?_;refine sR X7 ?_;rw [E,A6 U];exact aR
 refine A0.ff (by simp [Ao,Ae,U]) (A0.kk (u1 _ _ ?_));clear u1 Z;rw [A8 U] at E;have O:=L.put U;have a3:=L.len;refine sC (F0w acc t.name (by omega)) X7 ?_;generalize U2 acc t.name=acc2 at *;refine sK fun Z u1=>?_;have a1:∀sl bx,sle sl [(2,Ct (Ty.T5 p t.args acc2))]→Z sl bx:=by intro sl bx h1;refine u1 _ _ (A0.ww (bx':=[]) h1 trivial ?_);clear u1 Z;refine sR X7 ?_;rw [E];exact aR
 refine sR X7 ?_;refine A0.bb (A0.loop (X:=Nat × List A3) (fun x=>[(2,Ct x.2),(7,A9 x.1),(3,.box 3 0),(4,.box 4 0)]) (fun _=>[(3,.cells ((Aj p).map .d)),(4,.cells ((Bh t).map .d))])
  (fun x=>x.1≤t.args.length∧Fc p x.2∧Ty.T5 p (t.args.drop x.1) x.2=Ty.T5 p t.args acc2) (fun x=>t.args.length - x.1) (0,acc2) ?_ ?_ ?_ ?_)
 ·exact⟨by simp,O,rfl⟩
 ·exact sS
 ·exact (by simp [ble,A7,Bh,Aj])
 rintro⟨j,r⟩ ⟨hj,hr,I⟩;simp only at hj hr I;by_cases W:(j:Int) < (t.args.length:Int)
 ·have J:j < t.args.length:=by omega
  have hx:t.args[j]? = some t.args[j]:=Ba J;have V:t.args[j]∈t.args:=F7 J;have dp:t.args.drop j=t.args[j]::t.args.drop (j+1):=Fy J;generalize t.args[j]=x at *;rw [dp,Ty.T5] at I;refine Ai W X7 fun K2 u2=>?_;refine A0.tt rfl (A0.kk (u2 _ _ ?_));clear u2 K2;refine sK fun K2 u2=>?_;refine A0.bb ?_
  (refine lG X7 [] 7 [] fun K R=>?_;refine ev ?_)
  refine⟨by omega,Bh x,F5 hx,rfl,?_⟩;refine ev ?_;refine⟨Ct (x.structs p r),.inl ⟨_,rfl,ih x V r hr,rfl⟩,?_⟩;refine ev ?_
  (apply R;clear R K;try simp only [A4,Aa])
  refine u2 _ _ ?_;clear u2 K2
  (refine lQ X7 fun K R=>?_;refine ev ?_)
  refine⟨by unfold B7;unfold lim at *;omega,?_⟩
  (apply R;clear R K;try simp only [A4,])
  exact⟨(j+1,x.structs p r),⟨by simp only;omega,Fc.structs x hr,I⟩,by simp only;omega,by simp [sle,Aw,Ae],(by simp [ble,A7,Bh,Aj])⟩
 ·refine Ai W X7 fun K2 u2=>?_;refine A0.ff rfl (A0.xx ?_);simp only [A4,Aa,Af];rw [Ig (by omega),Ty.T5] at I;exact a1 _ _ (by simp [sle,Aw,Ae,I])
def Ws (p:Prog):List Param→List A3→List A3
 |[],acc=>acc
 |f::fs,acc=>Ws p fs (f.type.structs p acc)
def Q7 (p:Prog)(E:A3)(acc:List A3):List A3:=match p.decls.find? (fun d=>d.Iu E) with
 |some d=>if d.kind=1 then Ws p d.fields acc else acc
 |none=>acc
theorem Fc.fields {p:Prog} :∀(fs:List Param) {l:List A3},Fc p l→Fc p (Ws p fs l)
 |[],_,h=>h
 |t::E,_,h=>Fc.fields E (Fc.structs t.type h)
theorem Fc.cont {p:Prog} {l:List A3} (E:A3)(h:Fc p l):Fc p (Q7 p E l):=by
 unfold Q7;split
 ·split
  ·exact h.fields _
  ·exact h
 ·exact h
abbrev T0:List Nat:=[0,1,2,3,6,7,8,22,32]
theorem D8q (p:Prog)(hp:p.decls.length≤100000)(O:A3)(acc:List A3)(U:Fc p acc):Ac prog 282 [Cv p,C8 O,Ct acc] (Ct (Q7 p O acc)):=by
 refine Cd.bd (Enters.of func282 rfl (by decide)) fun a2=>?_;have a0:=B1u a2.1;refine cB func282 ?_;refine sR T0 ?_;refine sC (A5t p O) T0 ?_;refine sK fun K1 u1=>?_;rcases A7z O p.decls 0 with ⟨L,h2⟩| ⟨k,d,L,h2,h3⟩
 ·rw [L];have R:Q7 p O acc=acc:=by simp [Q7,h2]
  refine sR T0 ?_;refine A0.tt rfl ?_;refine sR T0 ?_;rw [R];exact aR
 rw [h2];rw [I2];have R:Q7 p O acc=if d.kind=1 then Ws p d.fields acc else acc:=by simp [Q7,h3]
 have W:¬(k:Int) < 0:=by omega
 rcases Decidable.em (d.kind=1) with hd| hd;rotate_left
 ·rw [A6 hd] at R
  (refine sQ T0 fun K E=>?_;refine An W ?_)
  refine⟨by omega,Bc d,E2 L,rfl,?_⟩;simp -implicitDefEqProofs only [EV,Nat.reduceEqDiff,reduceCtorEq,hd]
  (apply E;clear E K)
  refine A0.tt rfl ?_;refine sR T0 ?_;rw [R];exact aR
 rw [A8 hd] at R;have V:=a0.decls.2 d (Nt.2 ⟨k,L⟩);have a4:=V.fields.1
 (refine sQ T0 fun K E=>?_;refine An W ?_)
 refine⟨by omega,Bc d,E2 L,rfl,?_⟩;simp -implicitDefEqProofs only [EV,Nat.reduceEqDiff,reduceCtorEq,hd]
 (apply E;clear E K)
 refine A0.ff rfl (A0.kk (u1 _ _ ?_));clear u1 K1;refine sK fun K1 u1=>?_;have a1:∀sl bx,sle sl [(2,Ct (Ws p d.fields acc))]→K1 sl bx:=by intro sl bx L;refine u1 _ _ (A0.ww (bx':=[]) L trivial ?_);clear u1 K1;refine sR T0 ?_;rw [R];exact aR
 refine sR T0 ?_;refine A0.bb (A0.loop (X:=Nat × List A3) (fun x=>[(2,Ct x.2),(8,A9 x.1),(7,A9 k),(3,.box 3 0)]) (fun _=>[(3,.cells ((Aj p).map .d))])
  (fun x=>x.1≤d.fields.length∧Fc p x.2∧Ws p (d.fields.drop x.1) x.2=Ws p d.fields acc) (fun x=>d.fields.length - x.1) (0,acc) ?_ ?_ ?_ ?_)
 ·exact⟨by simp,U,rfl⟩
 ·exact sS
 ·exact (by simp [ble,A7,Aj])
 rintro⟨j,r⟩ ⟨hj,hr,I⟩;simp only at hj hr I;by_cases Z:(j:Int) < (d.fields.length:Int)
 ·have J:j < d.fields.length:=by omega
  have hx:d.fields[j]? = some d.fields[j]:=Ba J;have a3:d.fields[j]∈d.fields:=F7 J;have dp:d.fields.drop j=d.fields[j]::d.fields.drop (j+1):=Fy J;generalize d.fields[j]=x at *;rw [dp,Ws] at I;refine sK fun K2 u2=>?_
  (refine sQ T0 fun K E=>?_;refine ev ?_)
  refine⟨by omega,Bc d,E2 L,rfl,?_⟩;refine An Z ?_
  (apply E;clear E K)
  refine A0.tt rfl (A0.kk (u2 _ _ ?_));clear u2 K2;refine sK fun K2 u2=>?_;refine A0.bb ?_
  (refine lG T0 [] 12 [] fun K E=>?_;refine ev ?_)
  refine⟨by omega,Bc d,E2 L,rfl,?_⟩;refine ev ?_;refine⟨by omega,Gc x,E7 hx,rfl,?_⟩;refine ev ?_;refine⟨Ct (x.type.structs p r),.inl ⟨_,rfl,G4j p hp x.type r hr,rfl⟩,?_⟩;refine ev ?_
  (apply E;clear E K;try simp only [A4,Aa])
  refine u2 _ _ ?_;clear u2 K2
  (refine lQ T0 fun K E=>?_;refine ev ?_)
  refine⟨by unfold B7;unfold lim at *;omega,?_⟩
  (apply E;clear E K;try simp only [A4,])
  exact⟨(j+1,x.type.structs p r),⟨by simp only;omega,Fc.structs x.type hr,I⟩,by simp only;omega,by simp [sle,Aw,Ae],(by simp [ble,A7,Aj])⟩
 ·refine sK fun K2 u2=>?_
  (refine sQ T0 fun K E=>?_;refine ev ?_)
  refine⟨by omega,Bc d,E2 L,rfl,?_⟩;refine An Z ?_
  (apply E;clear E K)
  refine A0.ff rfl (A0.xx ?_);simp only [A4,Aa,Af];rw [Ig (by omega),Ws] at I;exact a1 _ _ (by simp [sle,Aw,Ae,I])
mutual
theorem E0c {p:Prog} {x:A3}:∀(t:Ty) {l:List A3},x∈l→x∈t.structs p l
 |.mk n a q,l,h=>by
  simp only [Ty.structs];split
  ·exact D6k a (C7u.2 (.inr h))
  ·exact h
theorem D6k {p:Prog} {x:A3}:∀(E:List Ty) {l:List A3},x∈l→x∈Ty.T5 p E l
 |[],_,h=>h
 |t::E,_,h=>D6k E (E0c t h)
end
theorem D9i {p:Prog} {x:A3} :∀(fs:List Param) {l:List A3},x∈l→x∈Ws p fs l
 |[],_,h=>h
 |t::E,_,h=>D9i E (E0c t.type h)
theorem D2n {p:Prog} {x E:A3} {l:List A3} (h:x∈l):x∈Q7 p E l:=by
 unfold Q7;split
 ·split
  ·exact D9i _ h
  ·exact h
 ·exact h
theorem F9e {p:Prog} {l:List A3} (E:A3)(h:Fc p l):l.length≤(Q7 p E l).length:=B4m h.nodup fun _=>D2n
def Xf (p:Prog):List Nat→List A3→List A3
 |[],r=>r
 |i::is,r=>Xf p is (Q7 p (r[i]?.getD []) r)
def B5a (p:Prog):Nat→Int→List A3→List A3
 | 0,_,r=>r
 |k+1,n,r=>if n=r.length then r else B5a p k r.length (Xf p (List.range' 0 r.length) r)
def A7o (p:Prog)(E:A3):List A3:=B5a p 100003 (-1) (Q7 p E [])
theorem Fc.round {p:Prog} :∀(is:List Nat) {l:List A3},Fc p l→Fc p (Xf p is l)
 |[],_,h=>h
 |_::is,_,h=>Fc.round is (h.cont _)
theorem D9u {p:Prog} {x:A3} :∀(is:List Nat) {l:List A3},x∈l→x∈Xf p is l
 |[],_,h=>h
 |_::is,_,h=>D9u is (D2n h)
theorem F1i {p:Prog} {l:List A3} (is:List Nat)(h:Fc p l):l.length≤(Xf p is l).length:=B4m h.nodup fun _=>D9u is
abbrev U1:List Nat:=[0,1,2,4,5,6,7,14,19]
theorem F7i (p:Prog)(hp:p.decls.length≤100000)(R:A3):Ac prog 221 [Cv p,C8 R] (Ct (A7o p R)):=by
 refine Cd.bd (Enters.of func221 rfl (by decide)) fun a7=>?_;refine cB func221 ?_;refine sR U1 ?_;refine sC (D8q p hp R [] (Fc.nil p)) U1 ?_;refine sK fun K1 u1=>?_;have a3:∀sl bx,sle sl [(5,Ct (A7o p R))]→K1 sl bx:=by intro sl bx h1;refine u1 _ _ (A0.ww (bx':=[]) h1 trivial ?_);clear u1 K1;refine sR U1 ?_;exact aR
 clear u1;refine sR U1 ?_;refine A0.bb (A0.loop (X:=Nat × Int × List A3) (fun x=>[(5,Ct x.2.2),(6,A9 x.2.1),(2,.box 2 0)]) (fun _=>[(2,.cells ((Aj p).map .d))])
  (fun x=>-1≤x.2.1∧x.2.1≤x.2.2.length∧Fc p x.2.2∧100001 - x.2.1≤x.1∧B5a p x.1 x.2.1 x.2.2=A7o p R) (fun x=>(100001 - x.2.1).toNat) (100003,-1,Q7 p R []) ?_ ?_ ?_ ?_)
 ·exact⟨by simp,by simp only;omega,(Fc.nil p).cont R,by simp,rfl⟩
 ·exact sS
 ·exact (by simp [ble,A7,Aj])
 rintro⟨k,n,r⟩ ⟨a1,a4,hr,hk,I⟩;simp only at a1 a4 hr hk I;have a5:=hr.len;obtain⟨k,rfl⟩:∃k',k=k'+1:=⟨k - 1,by omega⟩;rw [B5a] at I;by_cases L:n=(r.length:Int)
 ·rw [A8 L] at I;refine Ai L U1 fun W u2=>?_;refine A0.ff (by simp [Ao,Ae]) (A0.xx ?_);simp only [A4,Aa,Af];exact a3 _ _ (by simp [sle,Aw,Ae,I])
 ·rw [A6 L] at I;refine Ai L U1 fun W u2=>?_;refine A0.tt (by simp [Ao,Ae]) (A0.kk (u2 _ _ ?_));clear u2 W;refine A0.bb ?_;refine sR U1 ?_;refine sR U1 ?_;have a2:=hr.round (List.range' 0 r.length);have a6:=F1i (List.range' 0 r.length) hr;refine A0.bb (A0.loop (X:=Nat × List A3) (fun x=>[(5,Ct x.2),(6,A9 r.length),(7,A9 x.1),(2,.box 2 0)]) (fun _=>[(2,.cells ((Aj p).map .d))])
   (fun x=>x.1≤r.length∧r.length≤x.2.length∧Fc p x.2∧Xf p (List.range' x.1 (r.length - x.1)) x.2=Xf p (List.range' 0 r.length) r) (fun x=>r.length - x.1) (0,r) ?_ ?_ ?_ ?_)
  ·exact⟨by simp,by simp,hr,rfl⟩
  ·exact sS
  ·exact (by simp [ble,A7,Aj])
  rintro⟨j,U⟩ ⟨hj,a0,J,E⟩;simp only at hj a0 J E;by_cases O:(j:Int) < (r.length:Int)
  ·have V:j < U.length:=by omega
   have hx:U[j]? = some U[j]:=Ba V;obtain⟨m,hm⟩:∃m,r.length - j=m+1:=⟨r.length - j - 1,by omega⟩;rw [hm,Au0,Xf,hx,Dc] at E;generalize U[j]=x at *;refine Ai O U1 fun W u2=>?_;refine A0.tt rfl (A0.kk (u2 _ _ ?_));clear u2 W;refine sK fun W u2=>?_;refine A0.bb ?_
   (refine lG U1 [] 6 [] fun K Z=>?_;refine ev ?_)
   refine⟨by omega,_,La hx,rfl,?_⟩;refine ev ?_;refine⟨Ct (Q7 p x U),.inl ⟨_,rfl,D8q p hp x U J,rfl⟩,?_⟩;refine ev ?_
   (apply Z;clear Z K;try simp only [A4,Aa])
   refine u2 _ _ ?_;clear u2 W
   (refine lQ U1 fun K Z=>?_;refine ev ?_)
   refine⟨by unfold B7;omega,?_⟩
   (apply Z;clear Z K;try simp only [A4,])
   have hc:=F9e x J;exact⟨(j+1,Q7 p x U),⟨by simp only;omega,by simp only;omega,J.cont x,by simp only;rw [show r.length - (j+1)=m by omega];exact E⟩,by simp only;omega,by simp [sle,Aw,Ae],(by simp [ble,A7,Aj])⟩
  ·refine Ai O U1 fun W u2=>?_;refine A0.ff rfl (A0.xx ?_);simp only [A4,Aa,Af];rw [show r.length - j=0 by omega] at E;simp only [List.range'_zero,Xf] at E;subst E;exact⟨(k,r.length,Xf p (List.range' 0 r.length) r),⟨by simp only;omega,by simp only;omega,a2,by simp only;omega,I⟩,by simp only;omega,by simp [sle,Aw,Ae],(by simp [ble,A7,Aj])⟩
def Cy (s:A3):List A3→Nat→Int
 |[],_=>-1
 |x::xs,i=>if s=x then i else Cy s xs (i+1)
theorem A0d (s:A3):∀(l:List A3)(i:Nat),(Cy s l i = -1∧s ∉ l)∨∃k,l[k]? = some s∧Cy s l i=((i+k:Nat):Int)
 |[],i=>by simp [Cy]
 |d::ds,i=>by
  simp only [Cy];split
  ·rename_i h;subst h;exact .inr ⟨0,rfl,rfl⟩
  ·rename_i h;rcases A0d s ds (i+1) with ⟨I,E⟩| ⟨k,I,E⟩
   ·exact .inl ⟨I,by simp [h,E]⟩
   ·exact .inr ⟨k+1,by simpa using I,by rw [E];congr 1;omega⟩
abbrev Xd:List Nat:=[0,1,4,5,7,8,9,16]
theorem E6b (l:List A3)(s:A3):Ac prog 199 [Ct l,C8 s] (A9 (Cy s l 0)):=by
 refine Cd.bd (Enters.of func199 rfl (by decide)) fun V=>?_;have hl:=(B2t V.1).1;refine cB func199 ?_;refine sR Xd ?_;refine sK fun Z u1=>?_;have U:∀sl bx,Cy s l 0 = -1→Z sl bx:=by intro sl bx h1;refine u1 _ _ (A0.ww (sl':=[]) (bx':=[]) trivial trivial ?_);clear u1 Z;refine sR Xd ?_;rw [h1];exact aR
 refine sR Xd ?_;refine A0.bb (A0.loop (X:=Nat) (fun x=>[(8,A9 x),(7,A9 l.length),(0,Ct l),(1,C8 s)]) (fun _=>[])
  (fun x=>x≤l.length∧Cy s (l.drop x) x=Cy s l 0) (fun x=>l.length - x) 0 ?_ ?_ ?_ ?_)
 ·exact⟨by simp,by simp⟩
 ·exact sS
 ·exact sB
 rintro j ⟨hj,E⟩;by_cases L:(j:Int) < (l.length:Int)
 ·have J:j < l.length:=by omega
  have W:l[j]? = some l[j]:=Ba J;have dp:l.drop j=l[j]::l.drop (j+1):=Fy J;generalize l[j]=y at *;rw [dp,Cy] at E;refine Ah L Xd ?_;refine sK fun R u2=>?_;refine A0.tt rfl (A0.kk (u2 _ _ ?_));clear u2 R;refine sK fun R u2=>?_;refine A0.bb ?_;refine sR Xd ?_;by_cases O:s=y
  ·rw [A8 O] at E
   (refine sQ Xd fun K I=>?_;refine An O ?_)
   refine⟨by omega,_,La W,rfl,?_⟩;refine ev ?_
   (apply I;clear I K)
   refine A0.tt rfl ?_;refine sR Xd ?_;rw [←E];exact aR
  ·rw [A6 O] at E
   (refine sQ Xd fun K I=>?_;refine ev ?_)
   refine⟨by omega,_,La W,rfl,?_⟩;refine An O ?_
   (apply I;clear I K)
   refine A0.ff rfl (A0.kk ?_);simp only [A4,Aa];refine u2 _ _ ?_;clear u2 R
   (refine lQ Xd fun K I=>?_;refine ev ?_)
   refine⟨by unfold B7;unfold lim at *;omega,?_⟩
   (apply I;clear I K;try simp only [A4,])
   exact⟨j+1,⟨by omega,E⟩,by omega,by simp [sle,Aw,Ae],sB⟩
 ·refine Ah L Xd ?_;refine sK fun R u2=>?_;refine A0.ff rfl (A0.xx ?_);simp only [A4,Aa,Af];rw [Ig (by omega)] at E;exact U _ _ E.symm
def sm:Nat:=1000000
inductive Ty.Sm:Ty→Prop where
 |mk (n:A3) (a:List Ty) (p:Int):n.length≤sm→a.length≤sm→(∀t,t∈a→Ty.Sm t)→Ty.Sm (.mk n a p)
variable {t:Ty}
theorem Ty.Sm.name (h:t.Sm):t.name.length≤sm:=by cases h;assumption
theorem Ty.Sm.len (h:t.Sm):t.args.length≤sm:=by cases h;assumption
theorem Ty.Sm.arg (h:t.Sm):∀u,u∈t.args→u.Sm:=by cases h;assumption
abbrev Zi:List Nat:=[0,1,2,6,7,9,10,11,12,13]
theorem C4s (g:Ty→Ty)(vars:List A3)(args:List Ty)(l:List Ty)(hl:l.length≤sm)(hs:∀t,t∈l→Ac prog 128 [Be t,Ct vars,Cg args] (Be (g t))) :
  Ac prog 65 [Cg l,Ct vars,Cg args] (Cg (l.map g)):=by
 refine cB func65 ?_;refine sR Zi ?_;refine sR Zi ?_;refine A0.pp 7 3 7 rfl ?_;refine sK fun U u1=>?_;have R:∀sl bx,sle sl [(7,.acc 7)]→ble bx [(7,.rows 3 (Aq (l.map g)))]→U sl bx:=by intro sl bx h1 W;refine u1 _ _ (A0.ww h1 W ?_);clear u1 U;refine sR Zi ?_;exact aR
 refine sR Zi ?_;refine A0.bb (A0.loop (X:=Nat) (fun x=>[(12,A9 x),(11,A9 l.length),(10,Cg l),(1,Ct vars),(2,Cg args),(7,.acc 7)]) (fun x=>[(7,.rows 3 (Aq ((l.take x).map g)))])
  (fun x=>x≤l.length) (fun x=>l.length - x) 0 ?_ ?_ ?_ ?_)
 ·simp
 ·exact sS
 ·simp [ble,A7,F3i]
 rintro j hj;by_cases L:(j:Int) < (l.length:Int)
 ·have E:j < l.length:=by omega
  have V:l[j]? = some l[j]:=Ba E;have J:l[j]∈l:=F7 E;have Z:l.take (j+1)=l.take j++[l[j]]:=L5 E;generalize l[j]=y at *;refine Ah L Zi ?_;refine sK fun O u2=>?_;refine A0.tt rfl (A0.kk (u2 _ _ ?_));clear u2 O;refine sK fun O u2=>?_;refine A0.bb ?_
  (refine sQ Zi fun K I=>?_;refine ev ?_)
  refine⟨by omega,Bh y,F5 V,rfl,?_⟩;refine ev ?_
  (apply I;clear I K)
  (refine lQ Zi fun K I=>?_;refine ev ?_)
  refine⟨Be (g y),.inl ⟨_,rfl,hs y J,rfl⟩,?_⟩;refine ev ?_;refine⟨by simp,by rw [B6,Cw];unfold lim sm at *;omega,?_⟩
  (apply I;clear I K;try simp only [A4,Aa])
  refine u2 _ _ ?_;clear u2 O
  (refine lQ Zi fun K I=>?_;refine ev ?_)
  refine⟨by unfold B7;unfold sm at *;omega,?_⟩
  (apply I;clear I K;try simp only [A4,])
  refine⟨j+1,by omega,by omega,by simp [sle,Aw,Ae],?_⟩;rw [Z];simp [ble,A7,Cc,Bh]
 ·refine Ah L Zi ?_;refine sK fun O u2=>?_;refine A0.ff rfl (A0.xx ?_);simp only [A4,Aa,Af];rw [Aj9 (by omega)];exact R _ _ sS sB
mutual
def Ty.subst (vars:List A3)(args:List Ty):Ty→Ty
 |.mk n a p=>if a.length=0∧0≤Cy n vars 0∧Cy n vars 0 < args.length then .mk (args[(Cy n vars 0).toNat]?.getD default).name (args[(Cy n vars 0).toNat]?.getD default).args p else .mk n (Ty.B0q vars args a) p
def Ty.B0q (vars:List A3)(args:List Ty):List Ty→List Ty
 |[]=>[]
 |t::E=>t.subst vars args::Ty.B0q vars args E
end
theorem C8a (vars:List A3)(args:List Ty):∀l,Ty.B0q vars args l=l.map (Ty.subst vars args)
 |[]=>by rw [Ty.B0q];rfl
 |t::E=>by rw [Ty.B0q,C8a vars args E];rfl
theorem Uq (vars:List A3)(args:List Ty)(t:Ty):t.subst vars args=if t.args.length=0∧0≤Cy t.name vars 0∧Cy t.name vars 0 < args.length then .mk (args[(Cy t.name vars 0).toNat]?.getD default).name (args[(Cy t.name vars 0).toNat]?.getD default).args t.pos else .mk t.name (t.args.map (Ty.subst vars args)) t.pos:=by
 cases t with
 |mk n a p=>rw [Ty.subst,C8a];rfl
theorem A6m:∀t:Ty,t.subst [] []=t:=by
 intro t
 induction t using Ty.induct with
 |h t E =>
 rw [Uq,A6 (by simp [Cy]),Hv E];cases t;simp [Ty.name,Ty.args,Ty.pos]
abbrev Vr:List Nat:=[0,1,2,3,6,7,8,26]
theorem E2u (vars:List A3)(args:List Ty)(hC:∀(i:Nat)(u:Ty),args[i]? = some u→Ac prog 64 [Be u] (Be u)):∀t:Ty,t.Sm→Ac prog 128 [Be t,Ct vars,Cg args] (Be (t.subst vars args)):=by
 intro t
 induction t using Ty.induct with
 |h t ih =>
 intro U;refine Cd.bd (Enters.of func128 rfl (by decide)) fun R=>?_;have hv:=(B2t R.2.1).1;have ha:=(A5d R.2.2.1).1;have E:=Uq vars args t;have O:=C4s (Ty.subst vars args) vars args t.args U.len (fun u Z=>ih u Z (U.arg u Z));refine cB func128 ?_;refine sR Vr ?_;refine kC (E6b vars t.name) Vr fun K1 u1=>?_;generalize Cy t.name vars 0=i at *;have J:(t.args.length=0∧0≤i∧i < args.length)=False→∀sl bx,sle sl [(1,Ct vars),(2,Cg args),(3,.box 3 0),(6,.box 6 0)]→ble bx [(3,.cells ((Bh t).map .d)),(6,.cells [.d (.str []),.d .nil,.d (.int .i64 0)])]→K1 sl bx:=by intro hc sl bx L I;refine u1 _ _ (A0.ww L I ?_);clear u1 K1;rw [A6 (by rw [hc];exact id)] at E;refine sC O Vr ?_;refine sR Vr ?_;rw [E];exact aR
 by_cases L:(t.args.length:Int)=0
 ·by_cases I:0≤i
  ·by_cases V:i < (args.length:Int)
   ·rw [A8 ⟨by omega,I,V⟩] at E;have W:args[i.toNat]? = some args[i.toNat]:=Ba (by omega);rw [W,Dc] at E;generalize args[i.toNat]=u at *;refine sR3 L I V Vr ?_;refine A0.tt rfl ?_
    (refine sQ Vr fun K hK=>?_;refine ev ?_)
    refine⟨I,Bh u,F5 W,rfl,?_⟩;refine ev ?_;refine⟨Be u,.inl ⟨_,rfl,hC _ u W,rfl⟩,?_⟩;refine ev ?_
    (apply hK;clear hK K)
    refine sR Vr ?_;refine sR Vr ?_;rw [E];exact aR
   ·refine sR3 L I V Vr ?_;refine A0.ff rfl (A0.kk ?_);exact J (by simp [V]) _ _ sS (by simp [ble,A7,Bh,])
  ·refine En L I Vr ?_;refine A0.ff rfl (A0.kk ?_);exact J (by simp [I]) _ _ sS (by simp [ble,A7,Bh,])
 ·refine Ah L Vr ?_;refine A0.ff rfl (A0.kk ?_);exact J (by simp only [eq_iff_iff,iff_false];omega) _ _ sS (by simp [ble,A7,Bh,])
theorem A3v (t:Ty)(h:t.Sm):Ac prog 64 [Be t] (Be t):=by
 refine cB func64 ?_;refine sR [0,1,2] ?_
 (refine sQ [0,1,2] fun K E=>?_;simp -implicitDefEqProofs only [EV,Nat.reduceAdd,Nat.reduceEqDiff,reduceCtorEq,I9])
 have hs:=E2u [] [] (by simp) t h;rw [A6m] at hs;refine⟨Be t,.inl ⟨_,rfl,hs,rfl⟩,?_⟩;refine ev ?_
 (apply E;clear E K)
 exact aR
theorem B1m (vars:List A3)(args:List Ty)(I:∀u,u∈args→u.Sm)(t:Ty)(h:t.Sm):Ac prog 128 [Be t,Ct vars,Cg args] (Be (t.subst vars args)) :=
 E2u vars args (fun i u E=>A3v u (I u (Nt.2 ⟨i,E⟩))) t h
inductive Ex.Sm:Ex→Prop where
 |mk (k:Int) (n:A3) (t:Ty) (a:List Ty) (ks:List Ex) (p:Int):n.length≤sm→t.Sm→a.length≤sm→(∀t,t∈a→t.Sm)→ks.length≤sm→(∀e,e∈ks→Ex.Sm e)→Ex.Sm (.mk k n t a ks p)
variable {e:Ex}
theorem Ex.Sm.name (h:e.Sm):e.name.length≤sm:=by cases h;assumption
theorem Ex.Sm.type (h:e.Sm):e.type.Sm:=by cases h;assumption
theorem Ex.Sm.targs (h:e.Sm):e.targs.length≤sm∧∀t,t∈e.targs→t.Sm:=by cases h;exact⟨by assumption,by assumption⟩
theorem Ex.Sm.kids (h:e.Sm):e.kids.length≤sm∧∀t,t∈e.kids→t.Sm:=by cases h;exact⟨by assumption,by assumption⟩
def Ex.A1u (vars:List A3)(args:List Ty)(e:Ex):Ex:=.mk e.kind e.name (e.type.subst vars args) (e.targs.map (Ty.subst vars args)) e.kids e.pos
theorem F4d (vars:List A3)(args:List Ty)(I:∀u,u∈args→u.Sm)(e:Ex)(ht:e.type.Sm)(L:e.targs.length≤sm)(E:∀t,t∈e.targs→t.Sm) :
  Ac prog 239 [Di e,.Ag [.slice (C6 vars)] 0,.Ag [.slice (Aq args)] 0] (Di (e.A1u vars args)):=by
 refine cB func239 ?_;refine sR [0,1,2,3,4] ?_
 (refine sG [0,1,2,3,4] [] 11 [] fun K J=>?_;refine ev ?_)
 refine⟨Be (e.type.subst vars args),.inl ⟨_,rfl,B1m vars args I e.type ht,rfl⟩,?_⟩;refine ev ?_;refine⟨Cg (e.targs.map (Ty.subst vars args)),.inl ⟨_,rfl,C4s (Ty.subst vars args) vars args e.targs L (fun t h=>B1m vars args I t (E t h)),rfl⟩,?_⟩;refine ev ?_
 (apply J;clear J K)
 refine sR [0,1,2,3,4] ?_;exact aR
mutual
theorem SV.G4h (k:Nat)(f:Pq):∀{x:SV},x.closed=true→x.sub k f=x
 |.undef,_=>rfl
 |.d _,_=>rfl
 |.Ag _ _,_=>rfl
 |.agg cs,h=>by simp only [SV.closed] at h;simp only [SV.sub,SV.A7k k f h]
 |.tuple cs,h=>by simp only [SV.closed] at h;simp only [SV.sub,SV.A7k k f h]
 |.Bf _ cs,h=>by simp only [SV.closed] at h;simp only [SV.sub,SV.A7k k f h]
 |.Fh cs _,h=>by simp only [SV.closed] at h;simp only [SV.sub,SV.A7k k f h]
 |.box _ _,h=>by simp [SV.closed] at h
 |.acc _,h=>by simp [SV.closed] at h
 |.Eb _ _ _,h=>by simp [SV.closed] at h
 |.mp _,h=>by simp [SV.closed] at h
 |.Fm _,h=>rfl
theorem SV.A7k (k:Nat)(f:Pq):∀{xs:List SV},SV.Jb xs=true→SV.Kq k f xs=xs
 |[],_=>rfl
 |c::cs,h=>by simp only [SV.Jb,B1] at h;simp only [SV.Kq,SV.G4h k f h.1,SV.A7k k f h.2]
end
def Ex.Ue (e:Ex)(ks:List Ex):Ex:=.mk e.kind e.name e.type e.targs ks e.pos
mutual
def Ex.mapped (g:Ex→Ex):Ex→Ex
 |.mk k n t a ks p=>g (.mk k n t a (Ex.B1n g ks) p)
def Ex.B1n (g:Ex→Ex):List Ex→List Ex
 |[]=>[]
 |e::E=>e.mapped g::Ex.B1n g E
end
theorem D4a (g:Ex→Ex):∀l,Ex.B1n g l=l.map (Ex.mapped g)
 |[]=>by rw [Ex.B1n];rfl
 |t::E=>by rw [Ex.B1n,D4a g E];rfl
theorem A1b (g:Ex→Ex)(e:Ex):e.mapped g=g (e.Ue (e.kids.map (Ex.mapped g))):=by
 cases e with
 |mk k n t a ks p=>rw [Ex.mapped,D4a];rfl
abbrev X9:List Nat:=[0,1,2,4,5,7,9,10,11,12]
theorem E9m (f:FuncId)(caps:List SV)(O:Gy [] caps=some caps)(U:SV.Jb caps=true)(g:Ex→Ex)
  (hg:∀(e:Ex) (ks:List Ex),e.Sm→Ac prog f (Di (e.Ue ks)::caps) (Di (g (e.Ue ks)))) :
  ∀e:Ex,e.Sm→Ac prog 238 [Di e,.Bf f caps] (Di (e.mapped g)):=by
 intro e
 induction e using Ex.induct with
 |h e ih =>
 intro L;have R:=A1b g e;have hl:=L.kids.1;have W:∀k,SV.Hi k caps=false:=fun k=>SV.A6n k U;have a1:(false=true)=False:=by simp
 rw [R];refine cB func238 ?_;refine Ah W X9 ?_;refine sR X9 ?_;refine A0.pp 5 8 5 rfl ?_;simp only [Ub,L6,SV.has,W,Hh,Et];refine sK fun K1 u1=>?_;have a0:∀sl bx,sle sl [(1,.Bf f caps),(2,.box 2 0),(4,.box 4 0),(5,.acc 5)] →
   ble bx [(5,.rows 8 (Db (e.kids.map (Ex.mapped g)))),(2,.cells ((Ce e).map .d)),(4,.cells [.d (.int .i64 0),.d (.str []),.d (.str []),.d .nil,.d (.int .i64 0),.d .nil,.d .nil,.d (.int .i64 0)])]→K1 sl bx:=by
  intro sl bx h1 h2;refine u1 _ _ (A0.ww h1 h2 ?_);clear u1 K1 h1 h2;refine A0.Kx 5 rfl ?_;refine A0.ww (sl':=[(1,.Bf f caps),(2,.box 2 0),(4,.box 4 0),(5,.d (.slice (Db (e.kids.map (Ex.mapped g)))))])
   (bx':=[(2,.cells ((Ce e).map .d)),(4,.cells [.d (.int .i64 0),.d (.str []),.d (.str []),.d .nil,.d (.int .i64 0),.d .nil,.d .nil,.d (.int .i64 0)])])
   (by simp [Ky,SV.sub,sle,Aw,Ae,SV.A7k _ _ U]) (by simp [Jg,Ar.sub,SV.Kq,SV.sub,ble,A7,C3,Ce]) ?_
  refine sR X9 ?_
  (refine sQ X9 fun K E=>?_;refine An O ?_)
  refine⟨Di (g (e.Ue (e.kids.map (Ex.mapped g)))),.inl ⟨_,rfl,hg e _ L,rfl⟩,?_⟩;refine ev ?_
  (apply E;clear E K)
  exact aR
 refine sR X9 ?_;refine A0.bb (A0.loop (X:=Nat) (fun x=>[(11,A9 x),(10,A9 e.kids.length),(9,.d (.slice (Db e.kids))),(1,.Bf f caps),(2,.box 2 0),(4,.box 4 0),(5,.acc 5)])
  (fun x=>[(5,.rows 8 (Db ((e.kids.take x).map (Ex.mapped g)))),(2,.cells ((Ce e).map .d)),(4,.cells [.d (.int .i64 0),.d (.str []),.d (.str []),.d .nil,.d (.int .i64 0),.d .nil,.d .nil,.d (.int .i64 0)])])
  (fun x=>x≤e.kids.length) (fun x=>e.kids.length - x) 0 ?_ ?_ ?_ ?_)
 ·simp
 ·exact sS
 ·simp [ble,A7,F3p,Ce]
 rintro j hj;by_cases V:(j:Int) < (e.kids.length:Int)
 ·have I:j < e.kids.length:=by omega
  have hy:e.kids[j]? = some e.kids[j]:=Ba I;have J:e.kids[j]∈e.kids:=F7 I;have tk:e.kids.take (j+1)=e.kids.take j++[e.kids[j]]:=L5 I;generalize e.kids[j]=y at *;refine Ah V X9 ?_;refine sK fun Z u2=>?_;refine A0.tt rfl (A0.kk (u2 _ _ ?_));clear u2 Z;refine sK fun Z u2=>?_;refine A0.bb ?_
  (refine sQ X9 fun K E=>?_;refine ev ?_)
  refine⟨by omega,Ce y,Ed hy,rfl,?_⟩;refine An W ?_
  (apply E;clear E K)
  (refine lQ X9 fun K E=>?_;refine Gj O W ?_)
  refine⟨Di (y.mapped g),.inl ⟨_,rfl,ih y J (L.kids.2 y J),rfl⟩,?_⟩;refine ev ?_;refine⟨by simp,by rw [B6,Cw];unfold lim sm at *;omega,?_⟩
  (apply E;clear E K;try simp only [A4,Aa])
  refine u2 _ _ ?_;clear u2 Z
  (refine lQ X9 fun K E=>?_;refine ev ?_)
  refine⟨by unfold B7;unfold sm at *;omega,?_⟩
  (apply E;clear E K;try simp only [A4,])
  refine⟨j+1,by omega,by omega,by simp [sle,Aw,Ae],?_⟩;rw [tk];simp [ble,A7,Lp,Ce]
 ·refine Ah V X9 ?_;refine sK fun Z u2=>?_;refine A0.ff rfl (A0.xx ?_);simp only [A4,Aa,Af];rw [Aj9 (by omega)];exact a0 _ _ sS (by simp [ble,A7,Ce,])
def Ex.subst (vars:List A3)(args:List Ty):Ex→Ex:=Ex.mapped (Ex.A1u vars args)
theorem D3k (vars:List A3)(args:List Ty)(I:∀u,u∈args→u.Sm)(e:Ex)(J:e.Sm):Ac prog 169 [Di e,Ct vars,Cg args] (Di (e.subst vars args)):=by
 have E:=E9m 239 [.Ag [.slice (C6 vars)] 0,.Ag [.slice (Aq args)] 0] rfl rfl (Ex.A1u vars args)
  (fun e ks h=>F4d vars args I (e.Ue ks) h.type h.targs.1 h.targs.2) e J
 refine cB func169 ?_;refine sR [0,1,2,3,4,5,6] ?_;refine A0.zz 4 rfl rfl ?_;refine A0.zz 5 rfl rfl ?_;refine A0.ww (sl':=[(3,.box 3 0),(4,.Ag [.slice (C6 vars)] 0),(5,.Ag [.slice (Aq args)] 0),(6,.box 6 0)])
  (bx':=[(3,.cells ((Ce e).map .d)),(6,.cells [.d (.int .i64 0),.d (.str []),.d (.str []),.d .nil,.d (.int .i64 0),.d .nil,.d .nil,.d (.int .i64 0)])])
  (by simp [Ky,SV.sub,SV.Kq,sle,Aw,Ae]) (by simp [Jg,Ar.sub,SV.Kq,SV.sub,ble,A7,C3,Ce]) ?_
 refine sC E [0,1,2,3,4,5,6] ?_;exact aR
theorem B7z:∀e:Ex,e.subst [] []=e:=by
 intro e
 induction e using Ex.induct with
 |h e I =>
 have J:e.kids.map (Ex.mapped (Ex.A1u [] []))=e.kids:=by have:=Hv (f:=Ex.mapped (Ex.A1u [] [])) (g:=id) I;rw [this];simp
 have E:∀l:List Ty,l.map (Ty.subst [] [])=l:=fun l=>by rw [Hv (g:=id) fun t _=>A6m t];simp
 show Ex.mapped (Ex.A1u [] []) e=e;rw [A1b,J];cases e;simp [Ex.A1u,Ex.Ue,Ex.kind,Ex.name,Ex.type,Ex.targs,Ex.kids,Ex.pos,A6m,E]
theorem C0a (e:Ex)(h:e.Sm):Ac prog 86 [Di e] (Di e):=by
 refine cB func86 ?_;refine sR [0,1,2] ?_
 (refine sQ [0,1,2] fun K E=>?_;simp -implicitDefEqProofs only [EV,Nat.reduceAdd,Nat.reduceEqDiff,reduceCtorEq,Jj])
 have hs:=D3k [] [] (by simp) e h;rw [B7z] at hs;refine⟨Di e,.inl ⟨_,rfl,hs,rfl⟩,?_⟩;refine ev ?_
 (apply E;clear E K)
 exact aR
structure Ak.Sm (f:Ak):Prop where
 name:f.name.length≤sm
 bound:f.bound.Sm
structure Param.Sm (f:Param):Prop where
 name:f.name.length≤sm
 type:f.type.Sm
structure A5.Sm (s:A5):Prop where
 name:s.name.length≤sm
 A1:s.A1.length≤sm∧∀t,t∈s.A1→t.Sm
 params:s.params.length≤sm∧∀t,t∈s.params→t.Sm
 result:s.result.Sm
structure Decl.Sm (d:Decl):Prop where
 name:d.name.length≤sm
 A1:d.A1.length≤sm∧∀t,t∈d.A1→t.Sm
 fields:d.fields.length≤sm∧∀t,t∈d.fields→t.Sm
 sigs:d.sigs.length≤sm∧∀t,t∈d.sigs→t.Sm
 recv:d.recv.length≤sm
 vars:d.vars.length≤sm∧∀t,t∈d.vars→t.length≤sm
 sig:d.sig.Sm
 body:d.body.Sm
structure Prog.Sm (p:Prog):Prop where
 decls:p.decls.length≤sm∧∀t,t∈p.decls→t.Sm
 main:p.main.Sm
theorem D2k (x:Ak)(h:x.Sm):Ac prog 243 [Qy x] (Qy x):=by refine cB func243 ?_;refine sR [0,1,2] ?_;refine sC (A3v x.bound h.bound) [0,1,2] ?_;refine sR [0,1,2] ?_;exact aR
theorem D2h (x:Param)(h:x.Sm):Ac prog 245 [X1 x] (X1 x):=by refine cB func245 ?_;refine sR [0,1,2] ?_;refine sC (A3v x.type h.type) [0,1,2] ?_;refine sR [0,1,2] ?_;exact aR
abbrev Zd:List Nat:=[0,1,4,5,7,8,9,10,11]
theorem D9a (f:FuncId)(l:List Ak)(hl:l.length≤sm)(hs:∀t,t∈l→Ac prog f [Qy t] (Qy t)) :
  Ac prog 242 [.d (.slice (Az l)),.Bf f []] (.d (.slice (Az l))):=by
 refine cB func242 ?_;refine sR Zd ?_;refine sR Zd ?_;refine A0.pp 5 5 5 rfl ?_;refine sK fun U u1=>?_;have R:∀sl bx,sle sl [(5,.acc 5)]→ble bx [(5,.rows 5 (Az l))]→U sl bx:=by intro sl bx h1 W;refine u1 _ _ (A0.ww h1 W ?_);clear u1 U;refine sR Zd ?_;exact aR
 refine sR Zd ?_;refine A0.bb (A0.loop (X:=Nat) (fun x=>[(10,A9 x),(9,A9 l.length),(8,.d (.slice (Az l))),(1,.Bf f []),(5,.acc 5)]) (fun x=>[(5,.rows 5 (Az (l.take x)))])
  (fun x=>x≤l.length) (fun x=>l.length - x) 0 ?_ ?_ ?_ ?_)
 ·simp
 ·exact sS
 ·simp [ble,A7,Az]
 rintro j hj;by_cases L:(j:Int) < (l.length:Int)
 ·have E:j < l.length:=by omega
  have V:l[j]? = some l[j]:=Ba E;have J:l[j]∈l:=F7 E;have Z:l.take (j+1)=l.take j++[l[j]]:=L5 E;generalize l[j]=y at *;refine Ah L Zd ?_;refine sK fun O u2=>?_;refine A0.tt rfl (A0.kk (u2 _ _ ?_));clear u2 O;refine sK fun O u2=>?_;refine A0.bb ?_
  (refine sQ Zd fun K I=>?_;refine ev ?_)
  refine⟨by omega,Ke y,Ep V,rfl,?_⟩;refine ev ?_
  (apply I;clear I K)
  (refine lQ Zd fun K I=>?_;refine ev ?_)
  refine⟨Qy y,.inl ⟨_,rfl,hs y J,rfl⟩,?_⟩;refine ev ?_;refine⟨by simp,by rw [Cw];unfold lim sm at *;omega,?_⟩
  (apply I;clear I K;try simp only [A4,Aa])
  refine u2 _ _ ?_;clear u2 O
  (refine lQ Zd fun K I=>?_;refine ev ?_)
  refine⟨by unfold B7;unfold sm at *;omega,?_⟩
  (apply I;clear I K;try simp only [A4,])
  refine⟨j+1,by omega,by omega,by simp [sle,Aw,Ae],?_⟩;rw [Z];simp [ble,A7,Az,Ke]
 ·refine Ah L Zd ?_;refine sK fun O u2=>?_;refine A0.ff rfl (A0.xx ?_);simp only [A4,Aa,Af];rw [Aj9 (by omega)];exact R _ _ sS sB
abbrev Z1:List Nat:=[0,1,4,5,7,8,9,10,11]
theorem C9b (f:FuncId)(l:List Param)(hl:l.length≤sm)(hs:∀t,t∈l→Ac prog f [X1 t] (X1 t)) :
  Ac prog 244 [.d (.slice (B5 l)),.Bf f []] (.d (.slice (B5 l))):=by
 refine cB func244 ?_;refine sR Z1 ?_;refine sR Z1 ?_;refine A0.pp 5 5 5 rfl ?_;refine sK fun U u1=>?_;have R:∀sl bx,sle sl [(5,.acc 5)]→ble bx [(5,.rows 5 (B5 l))]→U sl bx:=by intro sl bx h1 W;refine u1 _ _ (A0.ww h1 W ?_);clear u1 U;refine sR Z1 ?_;exact aR
 refine sR Z1 ?_;refine A0.bb (A0.loop (X:=Nat) (fun x=>[(10,A9 x),(9,A9 l.length),(8,.d (.slice (B5 l))),(1,.Bf f []),(5,.acc 5)]) (fun x=>[(5,.rows 5 (B5 (l.take x)))])
  (fun x=>x≤l.length) (fun x=>l.length - x) 0 ?_ ?_ ?_ ?_)
 ·simp
 ·exact sS
 ·simp [ble,A7,B5]
 rintro j hj;by_cases L:(j:Int) < (l.length:Int)
 ·have E:j < l.length:=by omega
  have V:l[j]? = some l[j]:=Ba E;have J:l[j]∈l:=F7 E;have Z:l.take (j+1)=l.take j++[l[j]]:=L5 E;generalize l[j]=y at *;refine Ah L Z1 ?_;refine sK fun O u2=>?_;refine A0.tt rfl (A0.kk (u2 _ _ ?_));clear u2 O;refine sK fun O u2=>?_;refine A0.bb ?_
  (refine sQ Z1 fun K I=>?_;refine ev ?_)
  refine⟨by omega,Gc y,E7 V,rfl,?_⟩;refine ev ?_
  (apply I;clear I K)
  (refine lQ Z1 fun K I=>?_;refine ev ?_)
  refine⟨X1 y,.inl ⟨_,rfl,hs y J,rfl⟩,?_⟩;refine ev ?_;refine⟨by simp,by rw [Cw];unfold lim sm at *;omega,?_⟩
  (apply I;clear I K;try simp only [A4,Aa])
  refine u2 _ _ ?_;clear u2 O
  (refine lQ Z1 fun K I=>?_;refine ev ?_)
  refine⟨by unfold B7;unfold sm at *;omega,?_⟩
  (apply I;clear I K;try simp only [A4,])
  refine⟨j+1,by omega,by omega,by simp [sle,Aw,Ae],?_⟩;rw [Z];simp [ble,A7,B5,Gc]
 ·refine Ah L Z1 ?_;refine sK fun O u2=>?_;refine A0.ff rfl (A0.xx ?_);simp only [A4,Aa,Af];rw [Aj9 (by omega)];exact R _ _ sS sB
abbrev Yq:List Nat:=[0,1,4,5,7,8,9,10,11]
theorem G1u (f:FuncId)(l:List A5)(hl:l.length≤sm)(hs:∀t,t∈l→Ac prog f [Cx t] (Cx t)) :
  Ac prog 246 [.d (.slice (B9 l)),.Bf f []] (.d (.slice (B9 l))):=by
 refine cB func246 ?_;refine sR Yq ?_;refine sR Yq ?_;refine A0.pp 5 7 5 rfl ?_;refine sK fun U u1=>?_;have R:∀sl bx,sle sl [(5,.acc 5)]→ble bx [(5,.rows 7 (B9 l))]→U sl bx:=by intro sl bx h1 W;refine u1 _ _ (A0.ww h1 W ?_);clear u1 U;refine sR Yq ?_;exact aR
 refine sR Yq ?_;refine A0.bb (A0.loop (X:=Nat) (fun x=>[(10,A9 x),(9,A9 l.length),(8,.d (.slice (B9 l))),(1,.Bf f []),(5,.acc 5)]) (fun x=>[(5,.rows 7 (B9 (l.take x)))])
  (fun x=>x≤l.length) (fun x=>l.length - x) 0 ?_ ?_ ?_ ?_)
 ·simp
 ·exact sS
 ·simp [ble,A7,B9]
 rintro j hj;by_cases L:(j:Int) < (l.length:Int)
 ·have E:j < l.length:=by omega
  have V:l[j]? = some l[j]:=Ba E;have J:l[j]∈l:=F7 E;have Z:l.take (j+1)=l.take j++[l[j]]:=L5 E;generalize l[j]=y at *;refine Ah L Yq ?_;refine sK fun O u2=>?_;refine A0.tt rfl (A0.kk (u2 _ _ ?_));clear u2 O;refine sK fun O u2=>?_;refine A0.bb ?_
  (refine sQ Yq fun K I=>?_;refine ev ?_)
  refine⟨by omega,Eu y,E1 V,rfl,?_⟩;refine ev ?_
  (apply I;clear I K)
  (refine lQ Yq fun K I=>?_;refine ev ?_)
  refine⟨Cx y,.inl ⟨_,rfl,hs y J,rfl⟩,?_⟩;refine ev ?_;refine⟨by simp,by rw [Cw];unfold lim sm at *;omega,?_⟩
  (apply I;clear I K;try simp only [A4,Aa])
  refine u2 _ _ ?_;clear u2 O
  (refine lQ Yq fun K I=>?_;refine ev ?_)
  refine⟨by unfold B7;unfold sm at *;omega,?_⟩
  (apply I;clear I K;try simp only [A4,])
  refine⟨j+1,by omega,by omega,by simp [sle,Aw,Ae],?_⟩;rw [Z];simp [ble,A7,B9,Eu]
 ·refine Ah L Yq ?_;refine sK fun O u2=>?_;refine A0.ff rfl (A0.xx ?_);simp only [A4,Aa,Af];rw [Aj9 (by omega)];exact R _ _ sS sB
abbrev Yh:List Nat:=[0,1,4,5,7,8,9,10,11]
theorem E8h (f:FuncId)(l:List Decl)(hl:l.length≤sm)(hs:∀t,t∈l→Ac prog f [Iy t] (Iy t)) :
  Ac prog 183 [.d (.slice (Bu l)),.Bf f []] (.d (.slice (Bu l))):=by
 refine cB func183 ?_;refine sR Yh ?_;refine sR Yh ?_;refine A0.pp 5 23 5 rfl ?_;refine sK fun U u1=>?_;have R:∀sl bx,sle sl [(5,.acc 5)]→ble bx [(5,.rows 23 (Bu l))]→U sl bx:=by intro sl bx h1 W;refine u1 _ _ (A0.ww h1 W ?_);clear u1 U;refine sR Yh ?_;exact aR
 refine sR Yh ?_;refine A0.bb (A0.loop (X:=Nat) (fun x=>[(10,A9 x),(9,A9 l.length),(8,.d (.slice (Bu l))),(1,.Bf f []),(5,.acc 5)]) (fun x=>[(5,.rows 23 (Bu (l.take x)))])
  (fun x=>x≤l.length) (fun x=>l.length - x) 0 ?_ ?_ ?_ ?_)
 ·simp
 ·exact sS
 ·simp [ble,A7,Bu]
 rintro j hj;by_cases L:(j:Int) < (l.length:Int)
 ·have E:j < l.length:=by omega
  have V:l[j]? = some l[j]:=Ba E;have J:l[j]∈l:=F7 E;have Z:l.take (j+1)=l.take j++[l[j]]:=L5 E;generalize l[j]=y at *;refine Ah L Yh ?_;refine sK fun O u2=>?_;refine A0.tt rfl (A0.kk (u2 _ _ ?_));clear u2 O;refine sK fun O u2=>?_;refine A0.bb ?_
  (refine sQ Yh fun K I=>?_;refine ev ?_)
  refine⟨by omega,Bc y,E2 V,rfl,?_⟩;refine ev ?_
  (apply I;clear I K)
  (refine lQ Yh fun K I=>?_;refine ev ?_)
  refine⟨Iy y,.inl ⟨_,rfl,hs y J,rfl⟩,?_⟩;refine ev ?_;refine⟨by simp,by rw [Cw];unfold lim sm at *;omega,?_⟩
  (apply I;clear I K;try simp only [A4,Aa])
  refine u2 _ _ ?_;clear u2 O
  (refine lQ Yh fun K I=>?_;refine ev ?_)
  refine⟨by unfold B7;unfold sm at *;omega,?_⟩
  (apply I;clear I K;try simp only [A4,])
  refine⟨j+1,by omega,by omega,by simp [sle,Aw,Ae],?_⟩;rw [Z];simp [ble,A7,Bu,Bc]
 ·refine Ah L Yh ?_;refine sK fun O u2=>?_;refine A0.ff rfl (A0.xx ?_);simp only [A4,Aa,Af];rw [Aj9 (by omega)];exact R _ _ sS sB
variable {bx:Ab}
theorem A0.G4w {ro:Option Nat} {P:Program} {c:Code} {Q:Exit→SL→Ab→Prop} {sl:SL} (t:Nat)(hd:Ae sl t=.d (.slice []))(U:A0 ro P n c Q ((t,.d .nil)::sl) bx)(I:A0 ro P n c Q ((t,.d .emp)::sl) bx):A0 ro P n c Q sl bx:=by
 intro C S w β a hs;have hr:=hs.slot t;rw [hd] at hr;have J:=hr.Gp;generalize O:a.tmps.getD t undef=v at J;have go:∀x:SV,Am S w β x v→St C n S w β a ((t,x)::sl) bx:=fun x L=>⟨hs.inv,hs.size,hs.defers,fun u=>by
  simp only [Ae];split
  ·rename_i R;subst R;rw [O];exact L
  ·exact hs.slot u⟩
 cases J with
 |Ja a cap E =>
  cases a with
  |none=>have:=E rfl;subst this;exact U C S w β _ (go _ (.d _ _ .nil))
  |some b=>exact I C S w β _ (go _ (.d _ _ (.emp b cap)))
 |slice _ b off cap sz=>exact I C S w β _ (go _ (.d _ _ (.emp _ cap)))
theorem F9i (l:List A3)(L:l.length≤sm):Ac prog 217 [Ct l] (Ct l):=by
 refine cB func217 ?_;refine sR [0,2,4] ?_;cases l with
 |nil =>
  refine A0.G4w 0 rfl ?_ ?_
  ·refine kR [0,2,4] fun I u1=>?_;refine A0.tt rfl ?_;refine sR [0,2,4] ?_;exact aR
  ·refine kR [0,2,4] fun I u1=>?_;refine A0.ff rfl (A0.kk (u1 _ _ ?_));clear u1 I
   (refine A0.F6 [0,2,4,5] [5] (by decide +kernel) fun K z=>?_;refine ev ?_;apply z;clear z K)
   exact aR
 |cons x l =>
  have e:C6 (x::l)=[.str x]::C6 l:=rfl;refine sK fun I u1=>?_
  (refine sQ [0,2,4] fun K z=>?_;simp -implicitDefEqProofs only [EV,Nat.reduceEqDiff,reduceCtorEq,C1d,e,Pu];apply z;clear z K)
  refine A0.ff rfl (A0.kk (u1 _ _ ?_));clear u1 I;have E:=A4g (x::l);rw [e] at E;simp only [Bg] at L
  (refine A0.F6 [0,2,4,5] [5] (by decide +kernel) fun K J=>?_;refine ev ?_)
  refine⟨E,by unfold lim sm at *;omega,?_⟩
  (apply J;clear J K)
  rw [←e];exact aR
theorem D4e (x:A5)(h:x.Sm):Ac prog 247 [Cx x] (Cx x):=by
 refine cB func247 ?_;refine sR [0,1,2] ?_
 (refine sG [0,1,2] [] 10 [] fun K E=>?_;refine ev ?_)
 refine⟨.d (.slice (Az x.A1)),.inl ⟨_,rfl,D9a _ _ h.A1.1 fun t ht=>D2k t (h.A1.2 t ht),rfl⟩,?_⟩;refine ev ?_;refine⟨.d (.slice (B5 x.params)),.inl ⟨_,rfl,C9b _ _ h.params.1 fun t ht=>D2h t (h.params.2 t ht),rfl⟩,?_⟩;refine ev ?_;refine⟨Be x.result,.inl ⟨_,rfl,A3v x.result h.result,rfl⟩,?_⟩;refine ev ?_
 (apply E;clear E K)
 refine sR [0,1,2] ?_;exact aR
theorem G2s (x:Decl)(h:x.Sm):Ac prog 184 [Iy x] (Iy x):=by
 refine cB func184 ?_;refine sR [0,1,2] ?_
 (refine sG [0,1,2] [] 10 [] fun K E=>?_;refine ev ?_)
 refine⟨.d (.slice (Az x.A1)),.inl ⟨_,rfl,D9a _ _ h.A1.1 fun t ht=>D2k t (h.A1.2 t ht),rfl⟩,?_⟩;refine ev ?_;refine⟨.d (.slice (B5 x.fields)),.inl ⟨_,rfl,C9b _ _ h.fields.1 fun t ht=>D2h t (h.fields.2 t ht),rfl⟩,?_⟩;refine ev ?_;refine⟨.d (.slice (B9 x.sigs)),.inl ⟨_,rfl,G1u _ _ h.sigs.1 fun t ht=>D4e t (h.sigs.2 t ht),rfl⟩,?_⟩;refine ev ?_
 (apply E;clear E K)
 (refine sG [0,1,2] [] 10 [] fun K E=>?_;refine ev ?_)
 refine⟨Ct x.vars,.inl ⟨_,rfl,F9i _ h.vars.1,rfl⟩,?_⟩;refine ev ?_;refine⟨Cx x.sig,.inl ⟨_,rfl,D4e _ h.sig,rfl⟩,?_⟩;refine ev ?_;refine⟨Di x.body,.inl ⟨_,rfl,C0a _ h.body,rfl⟩,?_⟩;refine ev ?_
 (apply E;clear E K)
 refine sR [0,1,2] ?_;exact aR
theorem E0k (p:Prog)(h:p.Sm):Ac prog 109 [Cv p] (Cv p):=by
 refine cB func109 ?_;refine sR [0,1,2] ?_
 (refine sG [0,1,2] [] 5 [] fun K E=>?_;refine ev ?_)
 refine⟨.d (.slice (Bu p.decls)),.inl ⟨_,rfl,E8h _ _ h.decls.1 fun t ht=>G2s t (h.decls.2 t ht),rfl⟩,?_⟩;refine ev ?_;refine⟨Di p.main,.inl ⟨_,rfl,C0a _ h.main,rfl⟩,?_⟩;refine ev ?_
 (apply E;clear E K)
 exact aR
def Dy {α:Type} (p:α→Bool)(l:List α):Int:=match l.findIdx? p with
 |some i=>i
 |none=>-1
theorem Th {α:Type} {p:α→Bool} {l:List α} (h:∀x,x∈l→p x=false):Dy p l = -1:=by unfold Dy;rw [An2.2 h]
theorem Uj {α:Type} {p:α→Bool} {l:List α} {j:Nat} {x:α} (I:l[j]? = some x)(J:p x=true)(h:∀y,y∈l.take j→p y=false):Dy p l=j:=by
 unfold Dy;have:l.findIdx? p=some j:=by rw [Ah8];obtain⟨E,L⟩:=Ay.1 I;refine⟨E,by rw [L];exact J,?_⟩;intro i O;have:=h l[i] (List.mem_take_iff_getElem.2 ⟨i,by omega,by simp⟩);simpa using this
 rw [this]
abbrev Zz:List Nat:=[0,1,4,5,7,8,9,16]
theorem F0y (f:FuncId)(caps:List SV)(J:∀x:Ak,Gy [] (Qy x::caps)=some (Qy x::caps))(p:Ak→Bool)(l:List Ak)(V:l.length≤sm)(hs:∀t,t∈l→Ac prog f (Qy t::caps) (.d (.bool (p t)))) :
  Ac prog 265 [.d (.slice (Az l)),.Bf f caps] (A9 (Dy p l)):=by
 refine cB func265 ?_;refine sR Zz ?_;refine kR Zz fun Z u1=>?_;refine A0.bb (A0.ii l (X:=Unit) (fun j _=>[(0,.d (.slice (Az l))),(1,.Bf f caps),(7,A9 l.length),(8,A9 j)]) (fun _ _=>[])
  (fun j _=>∀y,y∈l.take j→p y=false) () (by simp) sS sB ?_ ?_)
 ·intro _ E;rw [Cs] at E;refine Ah B4 Zz ?_;refine A0.stop rfl ?_;simp only [A4,Aa,Af];refine u1 _ _ ?_;refine sR Zz ?_;rw [Th E];exact aR
 ·intro j _ d hd I W R O E;refine Ah O Zz ?_;refine A0.E5 rfl ?_;refine sK fun U u2=>?_;refine A0.bb ?_;refine sR Zz ?_
  (refine sV Zz fun K z=>?_;refine ci (Ep hd) ?_;refine⟨_,.inl ⟨_,J d,hs d I,rfl⟩,?_⟩;(try refine ev ?_);apply z;clear z K)
  refine A0.cond rfl (fun L=>?_) (fun L=>?_)
  ·refine sR Zz ?_;rw [Uj hd L E];exact aR
  ·refine A0.kk (u2 _ _ ?_);clear u2 U;refine lT Zz ?_;refine⟨(),?_,sS,sB⟩;rw [R];intro y hy;rcases Bw.1 hy with hy| hy
   ·exact E y hy
   ·simp only [As,Dt,Du] at hy;rw [hy];exact L
abbrev Z4:List Nat:=[0,1,4,5,7,8,9,16]
theorem G5t (f:FuncId)(caps:List SV)(J:∀x:A5,Gy [] (Cx x::caps)=some (Cx x::caps))(p:A5→Bool)(l:List A5)(V:l.length≤sm)(hs:∀t,t∈l→Ac prog f (Cx t::caps) (.d (.bool (p t)))) :
  Ac prog 182 [.d (.slice (B9 l)),.Bf f caps] (A9 (Dy p l)):=by
 refine cB func182 ?_;refine sR Z4 ?_;refine kR Z4 fun Z u1=>?_;refine A0.bb (A0.ii l (X:=Unit) (fun j _=>[(0,.d (.slice (B9 l))),(1,.Bf f caps),(7,A9 l.length),(8,A9 j)]) (fun _ _=>[])
  (fun j _=>∀y,y∈l.take j→p y=false) () (by simp) sS sB ?_ ?_)
 ·intro _ E;rw [Cs] at E;refine Ah B4 Z4 ?_;refine A0.stop rfl ?_;simp only [A4,Aa,Af];refine u1 _ _ ?_;refine sR Z4 ?_;rw [Th E];exact aR
 ·intro j _ d hd I W R O E;refine Ah O Z4 ?_;refine A0.E5 rfl ?_;refine sK fun U u2=>?_;refine A0.bb ?_;refine sR Z4 ?_
  (refine sV Z4 fun K z=>?_;refine ci (E1 hd) ?_;refine⟨_,.inl ⟨_,J d,hs d I,rfl⟩,?_⟩;(try refine ev ?_);apply z;clear z K)
  refine A0.cond rfl (fun L=>?_) (fun L=>?_)
  ·refine sR Z4 ?_;rw [Uj hd L E];exact aR
  ·refine A0.kk (u2 _ _ ?_);clear u2 U;refine lT Z4 ?_;refine⟨(),?_,sS,sB⟩;rw [R];intro y hy;rcases Bw.1 hy with hy| hy
   ·exact E y hy
   ·simp only [As,Dt,Du] at hy;rw [hy];exact L
abbrev Yr:List Nat:=[0,2,3,5,6,7,8,9]
theorem A9z (l:List Ak)(R:l.length≤sm):Ac prog 189 [.d (.slice (Az l))] (.d (.slice (C6 (l.map (·.name))))):=by
 refine cB func189 ?_;refine sR Yr ?_;refine sR Yr ?_;refine A0.pp 3 1 3 rfl ?_;refine kR Yr fun V u1=>?_;refine A0.bb (A0.ii l (X:=Unit) (fun j _=>[(3,.acc 3),(6,.d (.slice (Az l))),(7,A9 l.length),(8,A9 j)]) (fun j _=>[(3,.rows 1 (C6 ((l.take j).map (·.name))))])
  (fun j _=>True) () trivial sS (by simp [ble,A7,C6]) ?_ ?_)
 ·intro _ J;rw [Cs];refine Ah B4 Yr ?_;refine A0.stop rfl ?_;simp only [A4,Aa,Af];refine u1 _ _ ?_;refine sR Yr ?_;exact aR
 ·intro j _ d hd I U L E J;rw [L];refine Ah E Yr ?_;refine A0.E5 rfl ?_;refine sK fun O u2=>?_;refine A0.bb ?_
  (refine sV Yr fun K z=>?_;refine ci (Ep hd) ?_;apply z;clear z K)
  (refine lV Yr fun K z=>?_;refine⟨by simp,by simp only [B6,Cw];unfold lim sm at *;omega,?_⟩;(try refine ev ?_);apply z;clear z K;try simp only [A4,Aa])
  refine u2 _ _ ?_;clear u2 O;refine lT Yr ?_;exact⟨(),trivial,sS,by simp [ble,A7,C6]⟩
abbrev q4t:List Nat:=[0,2,3,4,8]
theorem To (l:List Ak)(R:l.length≤sm):Ac prog 166 [.d (.slice (Az l))] (.d (.slice (C6 (l.map (·.name))))):=by
 refine cB func166 ?_;refine sR q4t ?_;refine sR q4t ?_;refine A0.pp 3 1 3 rfl ?_;refine kR q4t fun V u1=>?_;refine A0.bb (A0.ii l (X:=Unit) (fun j _=>[(0,.d (.slice (Az l))),(3,.acc 3),(4,A9 j)]) (fun j _=>[(3,.rows 1 (C6 ((l.take j).map (·.name))))])
  (fun j _=>True) () trivial sS (by simp [ble,A7,C6]) ?_ ?_)
 ·intro _ L;rw [Cs];refine Ai B4 q4t fun E u2=>?_;refine A0.ss rfl ?_;simp only [A4,Aa,Af];refine u1 _ _ ?_;refine sR q4t ?_;exact aR
 ·intro j _ d hd J U O I L;rw [O];refine Ai I q4t fun E u2=>?_;refine gI u2 ?_;clear u2 E;refine sK fun E u2=>?_;refine A0.bb ?_
  (refine lV q4t fun K z=>?_;refine ci (Ep hd) ?_;refine⟨by simp,by simp only [B6,Cw];unfold lim sm at *;omega,?_⟩;(try refine ev ?_);apply z;clear z K;try simp only [A4,Aa])
  refine u2 _ _ ?_;clear u2 E;refine lT q4t ?_;exact⟨(),trivial,sS,by simp [ble,A7,C6]⟩
theorem C4p:∀a b:A3,(Op.bytesLess a b=true↔Bp a b = -1)∧(Op.bytesLess b a=true↔Bp a b=1)∧(Bp a b = -1∨Bp a b=0∨Bp a b=1)
 |[],[]=>by simp [Op.bytesLess,Bp]
 |[],_::_=>by simp [Op.bytesLess,Bp]
 |_::_,[]=>by simp [Op.bytesLess,Bp]
 |x::xs,y::ys=>by
  obtain⟨V,O,R⟩:=C4p xs ys;simp only [Op.bytesLess,Bp,Ta,B1,D8,Ug];by_cases I:x < y
  ·have L:¬y < x:=fun h=>Z7 x (UInt8.lt_trans I h);have E:¬y=x:=fun h=>by subst h;exact Z7 _ I
   simp [I,L,E]
  ·by_cases J:y < x
   ·have E:¬x=y:=fun h=>by subst h;exact Z7 _ J
    simp [I,J,E]
   ·have U:x=y:=by
     rcases Aw1 x.toNat y.toNat with h| h| h
     ·exact absurd (Ye.2 h) I
     ·exact UInt8.toNat_inj.1 h
     ·exact absurd (Ye.2 h) J
    subst U;simp [Z7,V,O,R]
theorem C2h:∀a:A3,Bp a a=0
 |[]=>rfl
 |x::xs=>by rw [Bp,A6 (Z7 x),A6 (Z7 x)];exact C2h xs
theorem Ui:∀{a b:A3},Bp a b=0↔a=b
 |[],[]=>by simp [Bp]
 |[],_::_=>by simp [Bp]
 |_::_,[]=>by simp [Bp]
 |x::xs,y::ys=>by
  rw [Bp];by_cases I:x < y
  ·have E:¬x=y:=fun h=>by subst h;exact Z7 _ I
   simp [I,E]
  ·by_cases J:y < x
   ·have E:¬x=y:=fun h=>by subst h;exact Z7 _ J
    simp [I,J,E]
   ·have L:x=y:=by
     rcases Aw1 x.toNat y.toNat with h| h| h
     ·exact absurd (Ye.2 h) I
     ·exact UInt8.toNat_inj.1 h
     ·exact absurd (Ye.2 h) J
    subst L;simp [Z7,Ui]
theorem D0b (a:A3):Ac prog 131 [C8 a] (B0 false):=by refine cB func131 ?_;refine sR [0,2] ?_;refine sR [0,2] ?_;exact aR
abbrev Xg:List Nat:=[0,1,4,5,6,11,12,13,16,19]
theorem E9o (a b:A3):Ac prog 69 [C8 a,C8 b] (A9 (Bp a b)):=by
 obtain⟨O,L,R⟩:=C4p a b;refine cB func69 ?_;refine sR Xg ?_;refine sC (D0b a) Xg ?_;refine sC (D0b b) Xg ?_;refine kR Xg fun I u1=>?_;refine kI u1 ?_;clear u1 I;refine kR Xg fun I u1=>?_;refine kI u1 ?_;clear u1 I;refine kR Xg fun I u1=>?_;refine A0.Nk rfl u1 (fun J=>?_) (fun J=>?_)
 ·refine sR Xg ?_;rw [O.1 J];exact aR
 clear u1 I;refine kR Xg fun I u1=>?_;refine A0.Nk rfl u1 (fun E=>?_) (fun E=>?_)
 ·refine sR Xg ?_;rw [L.1 E];exact aR
 clear u1 I;refine sR Xg ?_;have:Bp a b=0:=by
  rcases R with h| h| h
  ·rw [O.2 h] at J;simp at J
  ·exact h
  ·rw [L.2 h] at E;simp at E
 rw [this];exact aR
theorem D1b (a b:A3):Ac prog 26 [C8 a,C8 b] (A9 (Bp a b)):=by refine cB func26 ?_;refine sR [0,1,4] ?_;refine sC (E9o a b) [0,1,4] ?_;exact aR
abbrev Wi:List Nat:=[0,2,3,5,6,7,8,9,14]
theorem G0j (a b:Int):Ac prog 24 [.d (.slice [[.int .i64 a],[.int .i64 b]])] (A9 (if a≠0 then a else b)):=by
 refine cB func24 ?_;refine sR Wi ?_;refine sR Wi ?_;refine kR Wi fun K1 u1=>?_;refine A0.bb (A0.ii [a,b] (X:=Unit) (fun j _=>[(3,A9 0),(6,.d (.slice [[.int .i64 a],[.int .i64 b]])),(7,A9 2),(8,A9 j)]) (fun _ _=>[])
  (fun j _=>(1≤j→a=0)∧(2≤j→b=0)) () (by simp) sS sB ?_ ?_)
 ·intro _ E;refine sR Wi ?_;refine A0.stop rfl ?_;simp only [A4,Aa,Af];refine u1 _ _ ?_;refine sR Wi ?_;obtain⟨U,O⟩:=E;simp only [Bg,Ch] at U O;rw [U (by omega),O (by omega)];exact aR
 ·intro j _ d hd R dp tk L E;have I:(j:Int) < 2:=by simpa using L
  have V:([[.int .i64 a],[.int .i64 b]]:List (List D))[j]? = some [.int .i64 d]:=by
   match j,hd,I with
   | 0,hd,_=>simp at hd;subst hd;rfl
   | 1,hd,_=>simp at hd;subst hd;rfl
   |j+2,_,h=>omega
  refine Ah I Wi ?_;refine A0.E5 rfl ?_;refine sK fun Z u2=>?_;refine A0.bb ?_
  (refine sV Wi fun K z=>?_;refine ci V ?_;apply z;clear z K)
  refine sR Wi ?_;refine A0.cond rfl (fun J=>?_) (fun J=>?_)
  ·refine sR Wi ?_;have W:(if a≠0 then a else b)=d:=by
    simp only [D8,] at J
    match j,hd,E with
    | 0,hd,_=>simp at hd;subst hd;rw [A8 J]
    | 1,hd,E=>simp at hd;subst hd;rw [A6 (by simp [E.1 (by omega)])]
    |j+2,hd,_=>simp at hd
   rw [W];exact aR
  ·refine A0.kk (u2 _ _ ?_);clear u2 Z
   (refine lV Wi fun K z=>?_;refine cl ?_;apply z;clear z K;try simp only [A4,])
   refine⟨(),?_,sS,sB⟩;simp only [Vh,Decidable.not_not] at J
   match j,hd,E with
   | 0,hd,_=>simp at hd;subst hd;exact⟨fun _=>J,by omega⟩
   | 1,hd,E=>simp at hd;subst hd;exact⟨fun _=>E.1 (by omega),fun _=>J⟩
   |j+2,hd,_=>simp at hd
mutual
def Dz:Ty→Ty→Int
 |.mk n a _,u=>if Bp n u.name≠0 then Bp n u.name else Dp a u.args
def Dp:List Ty→List Ty→Int
 |[],[]=>0
 |[],_::_=>-1
 |_::_,[]=>1
 |x::xs,y::ys=>if Dz x y≠0 then Dz x y else Dp xs ys
end
theorem Z3 (t u:Ty):Dz t u=if Bp t.name u.name≠0 then Bp t.name u.name else Dp t.args u.args:=by cases t with| mk n a p=>rw [Dz];rfl
def Pj (t u:Ty):Bool:=decide (Dz t u=0)
abbrev Qh:List Nat:=[0,1,2,6,7,8,9,10,11,12,13,14,21,31,38]
theorem C7f (f:FuncId)(l m:List Ty)(hl:l.length≤sm)(hf:∀t,t∈l→∀u,Ac prog f [Be t,Be u] (A9 (Dz t u))) :
  Ac prog 27 [Cg l,Cg m,.Bf f []] (A9 (Dp l m)):=by
 refine cB func27 ?_;refine sR Qh ?_;refine kR Qh fun V u1=>?_;refine A0.bb (A0.ii l (X:=Unit) (fun j _=>[(0,Cg l),(1,Cg m),(2,.Bf f []),(11,Cg l),(12,A9 l.length),(13,A9 j)]) (fun _ _=>[])
  (fun j _=>j≤m.length∧Dp (l.drop j) (m.drop j)=Dp l m) () (by simp) sS sB ?_ ?_)
 ·rintro _ ⟨hj,I⟩;refine Ah B4 Qh ?_;refine A0.stop rfl ?_;simp only [A4,Aa,Af];refine u1 _ _ ?_;rw [D6] at I;clear u1 V;refine kR Qh fun V u1=>?_;refine A0.Nk rfl u1 (fun E=>?_) (fun E=>?_)
  ·refine sR Qh ?_;have:Dp l m = -1:=by
    rw [←I];have E:l.length < m.length:=by simpa using E
    rw [Fy E,Dp]
   rw [this];exact aR
  ·clear u1 V;refine sR Qh ?_;have:Dp l m=0:=by
    rw [←I];have E:m.length≤l.length:=by simpa using E
    rw [Ig E,Dp]
   rw [this];exact aR
 ·rintro j _ d hd L dp tk U ⟨hj,I⟩;rw [dp] at I;refine Ah U Qh ?_;refine A0.E5 rfl ?_;refine sK fun K2 u2=>?_;refine A0.bb ?_
  (refine sV Qh fun K z=>?_;refine ci (F5 hd) ?_;apply z;clear z K)
  refine kR Qh fun Z W=>?_;refine A0.Nk rfl W (fun E=>?_) (fun E=>?_)
  ·refine sR Qh ?_;have:Dp l m=1:=by
    rw [←I];have E:m.length≤j:=by simpa using E
    rw [Ig E,Dp]
   rw [this];exact aR
  clear W Z;have J:j < m.length:=by simpa using E
  obtain⟨e,O⟩:∃e,m[j]? = some e:=⟨_,Ba J⟩;have R:m.drop j=e::m.drop (j+1):=by rw [Fy J];rw [Ba J] at O;simp only [Av] at O;rw [O]
  rw [R,Dp] at I
  (refine sV Qh fun K z=>?_;refine ci (F5 O) ?_;apply z;clear z K)
  refine sC (hf d L e) Qh ?_;refine sR Qh ?_;refine A0.cond rfl (fun E=>?_) (fun E=>?_)
  ·refine sR Qh ?_;rw [A8 (by simpa using E)] at I;rw [←I];exact aR
  rw [A6 (by simpa using E)] at I;refine A0.kk (u2 _ _ ?_);clear u2 K2;refine lT Qh ?_;exact⟨(),⟨by omega,I⟩,sS,sB⟩
theorem C2r:∀(t:Ty),t.Sm→∀u:Ty,Ac prog 25 [Be t,Be u] (A9 (Dz t u)):=by
 intro t
 induction t using Ty.induct with
 |h t J =>
 intro hs u;rw [Z3];have E:=C7f 25 t.args u.args hs.len (fun x I y=>J x I (hs.arg x I) y);refine cB func25 ?_;refine sR [0,1,2,3,4] ?_
 (refine sG [0,1,2,3,4] [] 9 [] fun K z=>?_;refine ev ?_;refine cc (D1b t.name u.name) ?_;refine cc E ?_;refine cc (G0j _ _) ?_;apply z;clear z K)
 exact aR
theorem B5q (t u:Ty)(hs:t.Sm):Ac prog 31 [Be t,Be u] (B0 (Pj t u)):=by unfold Pj;refine cB func31 ?_;refine sR [0,1,2,3,4] ?_;refine sC (C2r t hs u) [0,1,2,3,4] ?_;exact aR
inductive Ty.Lm:Ty→Prop where
 |mk (n:A3) (a:List Ty) (p:Int):a.length≤sm→(∀t,t∈a→Ty.Lm t)→Ty.Lm (.mk n a p)
theorem Ty.Lm.len (h:t.Lm):t.args.length≤sm:=by cases h;assumption
theorem Ty.Lm.arg (h:t.Lm):∀u,u∈t.args→u.Lm:=by cases h;assumption
theorem Ty.Sm.lm:∀{t:Ty},t.Sm→t.Lm:=fun h=>by induction h with| mk n a p _ E _ I=>exact .mk n a p E I
abbrev Pt:List Nat:=[0,1,2,3,4,5,6,11,28,43,51,58]
theorem D3o:∀(t:Ty),t.Lm→∀u:Ty,Ac prog 23 [Be t,Be u] (A9 (Dz t u)):=by
 intro t
 induction t using Ty.induct with
 |h t ih =>
 intro hs u;have a2:=hs.len;rw [Z3];refine cB func23 ?_;refine sR Pt ?_;refine kR Pt fun L u1=>?_;refine A0.Nk rfl u1 (fun E=>?_) (fun E=>?_)
 ·refine sC (A9n t.name u.name) Pt ?_;rw [A8 (fun h=>(by simpa using E:¬t.name=u.name) (Ui.1 h))];exact aR
 clear u1 L;have a1:t.name=u.name:=by simpa using E
 rw [A6 (by rw [a1];simp [C2h])];refine kR Pt fun L u1=>?_;have U:∀(j:Nat) sl bx,sle sl [(2,.box 2 0),(3,.box 3 0)]→ble bx [(2,.cells [.d (.str t.name),Cg t.args,A9 t.pos]),(3,.cells [.d (.str u.name),Cg u.args,A9 u.pos])]→j≤t.args.length→j≤u.args.length→(t.args.length=j∨u.args.length=j)→Dp (t.args.drop j) (u.args.drop j)=Dp t.args u.args→L sl bx:=by
  intro j sl bx h1 h2 a5 a4 a3 I;refine u1 _ _ (A0.ww h1 h2 ?_);clear u1 L;refine kR Pt fun L u1=>?_;refine A0.Nk rfl u1 (fun E=>?_) (fun E=>?_)
  ·refine sR Pt ?_;have:Dp t.args u.args = -1:=by
    rw [←I];have E:t.args.length < u.args.length:=by simpa using E
    have:t.args.length=j:=by omega
    rw [Ig (by omega),Fy (show j < u.args.length by omega),Dp]
   rw [this];exact aR
  clear u1 L;refine kR Pt fun L u1=>?_;refine A0.Nk rfl u1 (fun O=>?_) (fun O=>?_)
  ·refine sR Pt ?_;have:Dp t.args u.args=1:=by
    rw [←I];have E:u.args.length < t.args.length:=by simpa using O
    rw [Fy (show j < t.args.length by omega),Ig (show u.args.length≤j by omega),Dp]
   rw [this];exact aR
  clear u1 L;refine sR Pt ?_;have:Dp t.args u.args=0:=by
   rw [←I];have h1:u.args.length≤t.args.length:=by simpa using E
   have h2:t.args.length≤u.args.length:=by simpa using O
   rw [Ig (by omega),Ig (by omega),Dp]
  rw [this];exact aR
 refine A0.bb (A0.ii t.args (X:=Unit) (fun j _=>[(2,.box 2 0),(3,.box 3 0),(5,A9 j)]) (fun _ _=>[(2,.cells [.d (.str t.name),Cg t.args,A9 t.pos]),(3,.cells [.d (.str u.name),Cg u.args,A9 u.pos])])
  (fun j _=>j≤u.args.length∧Dp (t.args.drop j) (u.args.drop j)=Dp t.args u.args) () (by simp) sS sB ?_ ?_)
 ·rintro _ ⟨hj,I⟩;refine Ai B4 Pt fun Z u2=>?_;refine A0.ss rfl ?_;simp only [A4,Aa,Af];exact U t.args.length _ _ sS sB (Cq _) hj (.inl rfl) I
 ·rintro j _ d hd J dp tk V ⟨hj,I⟩;refine sK fun Z u2=>?_;by_cases R:(j:Int) < (u.args.length:Int)
  ·obtain⟨e,W⟩:∃e,u.args[j]? = some e:=⟨_,Ba (by omega)⟩;have a0:u.args.drop j=e::u.args.drop (j+1):=by
    rw [Fy (by omega)];rw [Ba (by omega)] at W;simp only [Av] at W;rw [W]
   rw [dp,a0,Dp] at I;refine En V R Pt ?_;refine gI u2 ?_;clear u2 Z;refine sK fun Z u2=>?_;refine A0.bb ?_
   (refine sG Pt [] 10 [] fun K z=>?_;refine ev ?_;refine ci (F5 hd) ?_;refine ci (F5 W) ?_;refine cc (ih d J (hs.arg d J) e) ?_;apply z;clear z K)
   refine sR Pt ?_;refine A0.cond rfl (fun E=>?_) (fun E=>?_)
   ·refine sR Pt ?_;rw [A8 (by simpa using E)] at I;rw [←I];exact aR
   rw [A6 (by simpa using E)] at I;refine A0.kk (u2 _ _ ?_);clear u2 Z;refine lT Pt ?_;exact⟨(),⟨by omega,I⟩,sS,sB⟩
  ·refine En V R Pt ?_;refine A0.ss rfl ?_;simp only [A4,Aa,Af];exact U j _ _ sS sB (by omega) hj (.inr (by omega)) I
theorem C0b (t:Ty)(h:t.Sm)(u:Ty):Ac prog 23 [Be t,Be u] (A9 (Dz t u)):=D3o t h.lm u
theorem A6b (t u:Ty)(hs:t.Lm):Ac prog 7 [Be t,Be u] (B0 (Pj t u)):=by unfold Pj;refine cB func7 ?_;refine sR [0,1,2,3,4] ?_;refine sC (D3o t hs u) [0,1,2,3,4] ?_;exact aR
theorem G4f (t u:Ty)(hs:t.Sm):Ac prog 7 [Be t,Be u] (B0 (Pj t u)):=A6b t u hs.lm
abbrev exS (e:Ex):List SV:=[.d (.int .i64 e.kind),.d (.str e.name),.d (.str e.type.name),.d (.slice (Aq e.type.args)),.d (.int .i64 e.type.pos),.d (.slice (Aq e.targs)),.d (.slice (Db e.kids)),.d (.int .i64 e.pos)]
def R6:List Ty→List Ty→Bool
 |[],[]=>true
 |x::xs,y::ys=>Pj x y && R6 xs ys
 |_,_=>false
theorem D9f:∀{l m:List Ty},R6 l m=true→l.length=m.length
 |[],[],_=>rfl
 |x::xs,y::ys,h=>by simp only [R6,B1] at h;simp [D9f h.2]
 |[],_::_,h=>by simp [R6] at h
 |_::_,[],h=>by simp [R6] at h
mutual
def A7r:Ex→Ex→Bool
 |.mk k n t a ks _,u=>decide (k=u.kind) && decide (n=u.name) && Pj t u.type && R6 a u.targs && Sg ks u.kids
def Sg:List Ex→List Ex→Bool
 |[],[]=>true
 |x::xs,y::ys=>A7r x y && Sg xs ys
 |_,_=>false
end
theorem F0t (e u:Ex):A7r e u=(decide (e.kind=u.kind) && decide (e.name=u.name) && Pj e.type u.type && R6 e.targs u.targs && Sg e.kids u.kids):=by cases e with| mk k n t a ks p=>rw [A7r];rfl
theorem D2r:∀{l m:List Ex},Sg l m=true→l.length=m.length
 |[],[],_=>rfl
 |x::xs,y::ys,h=>by rw [Sg,B1] at h;simp [D2r h.2]
 |[],_::_,h=>by simp [Sg] at h
 |_::_,[],h=>by simp [Sg] at h
theorem A3a {α:Type} {l:List α} {j:Nat} (h:j < l.length):∃e,l[j]? = some e∧l.drop j=e::l.drop (j+1):=⟨l[j],Ba h,Fy h⟩
abbrev Wo:List Nat:=[0,1,4,5,10,14,26]
theorem F7v (l m:List Ty)(hl:l.length≤sm)(hs:∀t,t∈l→t.Lm):Ac prog 176 [Cg l,Cg m] (B0 (R6 l m)):=by
 refine cB func176 ?_;refine sR Wo ?_;refine kR Wo fun V u1=>?_;refine A0.Nk rfl u1 (fun E=>?_) (fun E=>?_)
 ·refine sR Wo ?_;have:R6 l m=false:=by
   cases h:R6 l m with
   |false=>rfl
   |true=>have:=D9f h;simp [this] at E
  rw [this];exact aR
 clear u1 V;have O:l.length=m.length:=by
  have:(l.length:Int)=m.length:=by simpa using E
  omega
 refine kR Wo fun V u1=>?_;refine A0.bb (A0.ii l (X:=Unit) (fun j _=>[(0,Cg l),(1,Cg m),(5,A9 j)]) (fun _ _=>[])
  (fun j _=>R6 (l.drop j) (m.drop j)=R6 l m) () (by simp) sS sB ?_ ?_)
 ·intro _ I;refine Ai B4 Wo fun L u2=>?_;refine A0.ss rfl ?_;simp only [A4,Aa,Af];refine u1 _ _ ?_;refine sR Wo ?_;rw [D6,O,D6] at I;rw [←I];exact aR
 ·intro j _ d hd J W tk U I;obtain⟨e,Z,R⟩:=A3a (l:=m) (j:=j) (by omega);rw [W,R,R6] at I;refine Ai U Wo fun L u2=>?_;refine gI u2 ?_;clear u2 L;refine sK fun L u2=>?_;refine A0.bb ?_
  (refine sG Wo [] 8 [] fun K z=>?_;refine ev ?_;refine ci (F5 hd) ?_;refine ci (F5 Z) ?_;refine cc (A6b d e (hs d J)) ?_;apply z;clear z K)
  refine A0.cond rfl (fun E=>?_) (fun E=>?_)
  ·refine sR Wo ?_;simp only [Jo] at E;rw [E,Bv] at I;rw [←I];exact aR
  simp only [S5] at E;rw [E,Ca] at I;refine A0.kk (u2 _ _ ?_);clear u2 L;refine lT Wo ?_;exact⟨(),I,sS,sB⟩
inductive Ex.Lm:Ex→Prop where
 |mk (k:Int) (n:A3) (t:Ty) (a:List Ty) (ks:List Ex) (p:Int):t.Lm→a.length≤sm→(∀t,t∈a→t.Lm)→ks.length≤sm→(∀e,e∈ks→Ex.Lm e)→Ex.Lm (.mk k n t a ks p)
theorem Ex.Lm.type (h:e.Lm):e.type.Lm:=by cases h;assumption
theorem Ex.Lm.targs (h:e.Lm):e.targs.length≤sm∧∀t,t∈e.targs→t.Lm:=by cases h;exact⟨by assumption,by assumption⟩
theorem Ex.Lm.kids (h:e.Lm):e.kids.length≤sm∧∀t,t∈e.kids→t.Lm:=by cases h;exact⟨by assumption,by assumption⟩
theorem Ex.Sm.lm:∀{e:Ex},e.Sm→e.Lm:=by
 intro e
 induction e using Ex.induct with
 |h e I =>
 intro h;obtain⟨k,n,t,a,ks,p⟩:=e;exact .mk k n t a ks p h.type.lm h.targs.1 (fun u E=>(h.targs.2 u E).lm) h.kids.1 fun u E=>I u E (h.kids.2 u E)
abbrev Mt:List Nat:=[0,1,2,3,4,5,42,47,61]
theorem E7a:∀(a:Ex),a.Lm→∀b:Ex,Ac prog 94 [Di a,Di b] (B0 (A7r a b)):=by
 intro a
 induction a using Ex.induct with
 |h a ih =>
 intro hs b;have a1:=hs.kids.1;have L:=F7v a.targs b.targs hs.targs.1 hs.targs.2;have E:=A6b a.type b.type hs.type;rw [F0t];refine cB func94 ?_;refine sR Mt ?_;refine sK fun K1 u1=>?_;by_cases I:a.kind=b.kind
 ·by_cases J:a.name=b.name
  ·rcases Fg (Pj a.type b.type) with h3| h3
   ·rw [h3] at E;rcases Fg (R6 a.targs b.targs) with h4| h4
    ·rw [h4] at L
     (refine sQ Mt fun K z=>?_;refine Gj I J ?_;refine cc E ?_;refine cc L ?_;apply z;clear z K)
     refine A0.Nk rfl u1 (fun O=>?_) (fun O=>?_)
     ·refine sR Mt ?_;have:Sg a.kids b.kids=false:=by
       cases h:Sg a.kids b.kids with
       |false=>rfl
       |true=>have:=D2r h;simp [this] at O
      rw [this,Vi];exact aR
     clear u1 K1;simp only [I,J,h3,h4,Tq,Ca];have W:a.kids.length=b.kids.length:=by
      have:(a.kids.length:Int)=b.kids.length:=by simpa using O
      omega
     refine kR Mt fun K1 u1=>?_;refine A0.bb (A0.ii a.kids (X:=Unit) (fun j _=>[(2,.box 2 0),(3,.box 3 0),(5,A9 j)]) (fun _ _=>[(2,.cells (exS a)),(3,.cells (exS b))])
      (fun j _=>Sg (a.kids.drop j) (b.kids.drop j)=Sg a.kids b.kids) () (by simp) sS (by simp [ble,A7,I,J]) ?_ ?_)
     ·intro _ R;refine Ai B4 Mt fun V u2=>?_;refine A0.ss rfl ?_;simp only [A4,Aa,Af];refine u1 _ _ ?_;refine sR Mt ?_;rw [D6,W,D6] at R;rw [←R,Sg];exact aR
     ·intro j _ d hd U dp tk a0 R;obtain⟨e,he,Z⟩:=A3a (l:=b.kids) (j:=j) (by omega);rw [dp,Z,Sg] at R;refine Ai a0 Mt fun V u2=>?_;refine gI u2 ?_;clear u2 V;refine sK fun V u2=>?_;refine A0.bb ?_
      (refine sG Mt [] 10 [] fun K z=>?_;refine ev ?_;refine ci (Ed hd) ?_;refine ci (Ed he) ?_;refine cc (ih d U (hs.kids.2 d U) e) ?_;apply z;clear z K)
      refine A0.cond rfl (fun O=>?_) (fun O=>?_)
      ·refine sR Mt ?_;simp only [Jo] at O;rw [O,Bv] at R;rw [←R];exact aR
      simp only [S5] at O;rw [O,Ca] at R;refine A0.kk (u2 _ _ ?_);clear u2 V;refine lT Mt ?_;exact⟨(),R,sS,sB⟩
    ·rw [h4] at L
     (refine sQ Mt fun K z=>?_;refine Gj I J ?_;refine cc E ?_;refine cc L ?_;apply z;clear z K)
     refine tI ?_;refine sR Mt ?_;simp only [I,J,h3,h4,Tq,Ca,Bv];exact aR
   ·rw [h3] at E
    (refine sQ Mt fun K z=>?_;refine Gj I J ?_;refine cc E ?_;apply z;clear z K)
    refine tI ?_;refine sR Mt ?_;simp only [I,J,h3,Tq,Ca,Bv];exact aR
  ·refine En I J Mt ?_;refine tI ?_;refine sR Mt ?_;simp only [I,J,Tq,Aq6,Ca,Bv];exact aR
 ·refine Ah I Mt ?_;refine tI ?_;refine sR Mt ?_;simp only [I,Aq6,Bv];exact aR
def Ev (env:List Ak)(t:Ty):Int:=if t.args.length=0 then Dy (fun f=>decide (f.name=t.name)) env else -1
abbrev Y3:List Nat:=[0,1,3,4,5,15,25]
theorem A6h (env:List Ak)(t:Ty)(hl:env.length≤sm):Ac prog 156 [.d (.slice (Az env)),Be t] (A9 (Ev env t)):=by
 unfold Ev;refine cB func156 ?_;refine sR Y3 ?_;refine kR Y3 fun K1 u1=>?_;have E:∀sl bx,(if t.args.length=0 then Dy (fun f=>decide (f.name=t.name)) env else -1) = -1→K1 sl bx:=by intro sl bx h;refine u1 _ _ ?_;refine sR Y3 ?_;rw [h];exact aR
 by_cases O:t.args.length=0
 ·have I:(t.args.length:Int)=0:=by omega
  refine A0.bb (A0.ii env (X:=Unit) (fun j _=>[(0,.d (.slice (Az env))),(3,.box 3 0),(5,A9 j)]) (fun _ _=>[(3,.cells [.d (.str t.name),Cg t.args,A9 t.pos])])
   (fun j _=>∀y,y∈env.take j→(fun f:Ak=>decide (f.name=t.name)) y=false) () (by simp) sS sB ?_ ?_)
  ·intro _ J;refine Ai B4 Y3 fun L u2=>?_;refine A0.ss rfl ?_;simp only [A4,Aa,Af];rw [Cs] at J;exact E _ _ (by rw [A8 O,Th J])
  ·intro j _ d hd V dp Z U J;refine Wc U I Y3 fun L u2=>?_;refine gI u2 ?_;clear u2 L;refine sK fun L u2=>?_;refine A0.bb ?_
   (refine sG Y3 [] 7 [] fun K z=>?_;refine ev ?_;refine ci (Ep hd) ?_;apply z;clear z K)
   refine A0.cond rfl (fun R=>?_) (fun R=>?_)
   ·refine sR Y3 ?_;rw [A8 O,Uj hd R J];exact aR
   refine A0.kk (u2 _ _ ?_);clear u2 L;refine lT Y3 ?_;refine⟨(),?_,sS,sB⟩;rw [Z];intro y hy;rcases Bw.1 hy with hy| hy
   ·exact J y hy
   ·simp only [As,Dt,Du] at hy;rw [hy];exact R
 ·have I:¬(t.args.length:Int)=0:=by omega
  refine A0.bb (A0.ii ([]:List Nat) (X:=Unit) (fun j _=>[(0,.d (.slice (Az env))),(3,.box 3 0),(5,A9 0)]) (fun _ _=>[(3,.cells [.d (.str t.name),Cg t.args,A9 t.pos])])
   (fun j _=>True) () trivial sS sB ?_ ?_)
  ·intro _ J;refine sK fun L u2=>?_;by_cases W:(0:Int) < (env.length:Int)
   ·refine En I W Y3 ?_;refine A0.ss rfl ?_;simp only [A4,Aa,Af];exact E _ _ (by rw [A6 O])
   ·refine Ah W Y3 ?_;refine A0.ss rfl ?_;simp only [A4,Aa,Af];exact E _ _ (by rw [A6 O])
  ·intro j _ d hd;simp at hd
theorem F6n (t:Ty)(x:Ak):Ac prog 264 [Qy x,.Ag (Bh t) 0] (B0 (decide (x.name=t.name))):=by refine cB func264 ?_;refine sR [0,1,2,3] ?_;refine sR [0,1,2,3] ?_;exact aR
def Ck (env:List Ak)(t:Ty):Option Ty:=if Ev env t < 0 then none else (env[(Ev env t).toNat]?).map (·.bound)
def B2u:Option Ty→SV
 |some b=>.tuple [Be b,B0 true]
 |none=>.tuple [Be (.mk [] [] 0),B0 false]
theorem A7d {env:List Ak} (h:¬Ev env t < 0):∃f,env[(Ev env t).toNat]? = some f∧(Ev env t).toNat < env.length∧t.args.length=0:=by
 unfold Ev Dy at h ⊢;by_cases E:t.args.length=0
 ·simp only [A8 E] at h ⊢;cases I:env.findIdx? (fun f=>decide (f.name=t.name)) with
  |none=>rw [I] at h;simp at h
  |some i =>have:=(Ah8.1 I).1;simp only [Gr];exact⟨env[i],Ba this,this,E⟩
 ·simp only [A6 E] at h;omega
abbrev A1y:List Nat:=[0,1,3,4,5,6,7,19]
theorem D6a (env:List Ak)(t:Ty)(hl:env.length≤sm)(hs:∀f,f∈env→f.Sm):Ac prog 194 [.d (.slice (Az env)),Be t] (B2u (Ck env t)):=by
 have R:=F0y 264 [.Ag (Bh t) 0] (fun x=>rfl) (fun f=>decide (f.name=t.name)) env hl (fun x _=>F6n t x);unfold Ck;have J:=A7d (env:=env) (t:=t);have U:t.args.length=0→Ev env t=Dy (fun f=>decide (f.name=t.name)) env:=fun h=>by unfold Ev;rw [A8 h]
 have O:¬t.args.length=0→Ev env t = -1:=fun h=>by unfold Ev;rw [A6 h]
 generalize Ev env t=i at *;generalize Dy (fun f:Ak=>decide (f.name=t.name)) env=i' at *;refine cB func194 ?_;refine sR A1y ?_;refine sR A1y ?_;refine A0.zz 3 rfl rfl ?_;refine A0.ww (sl':=[(0,.d (.slice (Az env))),(3,.Ag (Bh t) 0),(4,.box 4 0),(6,.Bf 264 [.Ag (Bh t) 0])]) (bx':=[(4,.cells [.d (.str []),.d .nil,.d (.int .i64 0)])])
  (by simp [Ky,SV.sub,SV.Kq,sle,Aw,Ae,Bh]) (by simp [Jg,Ar.sub,SV.Kq,SV.sub,ble,A7,C3]) ?_
 refine sC R A1y ?_;refine sK fun K1 u1=>?_;by_cases Z:t.args.length=0
 ·obtain rfl:=U Z;have E:¬(0:Int) < (t.args.length:Int):=by omega
  refine Ah E A1y ?_;refine A0.Nk rfl u1 (fun V=>?_) (fun V=>?_)
  ·refine sR A1y ?_;rw [A8 (by simpa using V)];exact aR
  clear u1 K1;have L:¬i < 0:=by simpa using V
  obtain⟨f,W,a0,_⟩:=J L;have I:=Bx W;rw [A6 L,W];have h0:0≤i:=by omega
  (refine sV A1y fun K z=>?_;refine ci (Ep W) ?_;refine cc (A3v f.bound (hs f I).bound) ?_;apply z;clear z K)
  exact aR
 ·have E:(0:Int) < (t.args.length:Int):=by omega
  rw [O Z];refine Ah E A1y ?_;refine tI ?_;refine sR A1y ?_;exact aR
def Gb (p:Prog)(E:A3):Option Decl:=p.decls.find? (fun d=>d.Iu E)
def Fj (p:Prog)(E:A3):List Ak:=match Gb p E with
 |some d=>d.A1
 |none=>[]
abbrev q1u:List Nat:=[0,1,2,4,5,10]
theorem B6s (p:Prog)(E:A3):Ac prog 223 [Cv p,C8 E] (.d (.slice (Az (Fj p E)))):=by
 refine Cd.bd (Enters.of func223 rfl (by decide)) fun O=>?_;have J:=B1u O.1;have hl:=J.decls.1;refine cB func223 ?_;refine sR q1u ?_;refine sC (A5t p E) q1u ?_;refine sK fun Z u1=>?_;rcases A7z E p.decls 0 with ⟨R,I⟩| ⟨k,d,R,I,V⟩
 ·rw [R];have L:Fj p E=[]:=by simp [Fj,Gb,I]
  refine sR q1u ?_;refine tI ?_;refine sR q1u ?_;rw [L];exact aR
 ·rw [I];have L:Fj p E=d.A1:=by simp [Fj,Gb,V]
  have W:¬((0+k:Nat):Int) < 0:=by omega
  have U:((0+k:Nat):Int).toNat=k:=by omega
  refine sR q1u ?_;refine kI u1 ?_;clear u1 Z
  (refine sV q1u fun K z=>?_;refine ci (E2 R) ?_;apply z;clear z K)
  rw [L];exact aR
def Bz (p:Prog)(x:Ty)(k:Int):Bool:=decide (kindOf p x.name=k) && decide ((Fj p x.name).length=x.args.length)
theorem A5s (p:Prog)(x:Ty)(k:Int):Ac prog 163 [Cv p,Be x,A9 k] (B0 (Bz p x k)):=by
 unfold Bz;have J:=B6s p x.name;have I:=A4y p x.name;generalize kindOf p x.name=k' at *;generalize Fj p x.name=l at *;refine cB func163 ?_;refine sR [0,1,2,3,4,6] ?_;by_cases E:k'=k
 ·have L:((l.length:Int)=(x.args.length:Int))↔l.length=x.args.length:=by omega
  (refine sG [0,1,2,3,4,6] [] 15 [] fun K z=>?_;refine ev ?_;refine⟨_,.inl ⟨_,rfl,I,rfl⟩,?_⟩;(try refine An E ?_);refine cc J ?_;apply z;clear z K)
  simp only [E,L,Tq,Ca];exact aR
 ·(refine sG [0,1,2,3,4,6] [] 15 [] fun K z=>?_;refine ev ?_;refine⟨_,.inl ⟨_,rfl,I,rfl⟩,?_⟩;(try refine An E ?_);apply z;clear z K)
  simp only [E,Aq6,Bv];exact aR
mutual
def isVal:Ex→Bool
 |.mk k _ _ _ ks _=>C7h ks && decide (k=3)
def C7h:List Ex→Bool
 |[]=>true
 |e::E=>isVal e && C7h E
end
abbrev q2u:List Nat:=[0,1,4,5,9,18]
theorem C4u (l:List A5)(m:A3)(U:l.length≤sm):Ac prog 165 [.d (.slice (B9 l)),C8 m] (A9 (Dy (fun s=>decide (s.name=m)) l)):=by
 refine cB func165 ?_;refine sR q2u ?_;refine kR q2u fun W u1=>?_;refine A0.bb (A0.ii l (X:=Unit) (fun j _=>[(0,.d (.slice (B9 l))),(1,C8 m),(5,A9 j)]) (fun _ _=>[])
  (fun j _=>∀y,y∈l.take j→(fun s:A5=>decide (s.name=m)) y=false) () (by simp) sS sB ?_ ?_)
 ·intro _ E;rw [Cs] at E;refine Ai B4 q2u fun I u2=>?_;refine A0.ss rfl ?_;simp only [A4,Aa,Af];refine u1 _ _ ?_;refine sR q2u ?_;rw [Th E];exact aR
 ·intro j _ d hd O V R L E;refine Ai L q2u fun I u2=>?_;refine gI u2 ?_;clear u2 I;refine sK fun I u2=>?_;refine A0.bb ?_
  (refine sV q2u fun K z=>?_;refine ci (E1 hd) ?_;apply z;clear z K)
  refine A0.cond rfl (fun J=>?_) (fun J=>?_)
  ·refine sR q2u ?_;rw [Uj hd J E];exact aR
  refine A0.kk (u2 _ _ ?_);clear u2 I;refine lT q2u ?_;refine⟨(),?_,sS,sB⟩;rw [R];intro y hy;rcases Bw.1 hy with hy| hy
  ·exact E y hy
  ·simp only [As,Dt,Du] at hy;rw [hy];exact J
theorem Inv.E5b {C:Ctx} {S:Nat→Prop} {w:World} {β:Names} {b:Nat} {cs cs':List SV} (h:Inv C S w β bx)(hb:(b,Ar.cells cs)∈bx)(hr:∀vs,Bm S w β cs vs→Bm S w β cs' vs) :
  Inv C S w β ((b,.cells cs')::C3 b bx):=by
 have E:∀k c,(k,c)∈(b,Ar.cells cs')::C3 b bx→(k=b∧c=.cells cs')∨(k≠b∧(k,c)∈bx):=by
  intro k c hk;rcases As.1 hk with he| hk
  ·simp only [Df] at he;exact .inl he
  ·exact .inr (Dq.1 hk)
 exact { h with
  box:=fun k c hk=>by
   rcases E k c hk with ⟨rfl,rfl⟩| ⟨_,hk⟩
   ·obtain⟨O,ty,vs,U,W,h3⟩:=h.box _ _ hb;exact⟨O,ty,vs,U,W,hr vs h3⟩
   ·exact h.box k c hk
  B8:=fun k c hk=>by
   rcases E k c hk with ⟨rfl,rfl⟩| ⟨_,hk⟩
   ·exact h.B8 _ _ hb
   ·exact h.B8 k c hk
  inj:=fun k c L V hk I O U W=>by
   rcases E k c hk with ⟨e1,e2⟩| ⟨hn,hm⟩ <;> rcases E L V I with ⟨e3,e4⟩| ⟨a0,J⟩
   ·rw [e1,e2,e3,e4];exact⟨rfl,rfl⟩
   ·rw [e1] at U;exact absurd (h.inj _ _ _ _ hb J O U W).1.symm a0
   ·rw [e3] at W;exact absurd (h.inj _ _ _ _ hm hb O U W).1 hn
   ·exact h.inj _ _ _ _ hm J O U W
  one:=fun k Y st L Y' a1 hk I=>by
   rcases E _ _ hk with ⟨_,e2⟩| ⟨_,hm⟩
   ·cases e2
   ·rcases E _ _ I with ⟨_,e4⟩| ⟨_,J⟩
    ·cases e4
    ·exact h.one _ _ _ _ _ _ hm J
  Ez:=fun k Y st hk=>by
   rcases E _ _ hk with ⟨_,e2⟩| ⟨_,hm⟩
   ·cases e2
   ·have Z:∀L V,(L,V)∈(b,Ar.cells cs')::C3 b bx→∃y,(L,y)∈bx:=fun L V I=>by
     rcases E _ _ I with ⟨rfl,_⟩| ⟨_,J⟩
     ·exact⟨_,hb⟩
     ·exact⟨_,J⟩
    obtain⟨U,W,h3,h4,B,h5,h6⟩:=h.Ez k Y st hm;exact⟨U,W,h3,fun L V I=>(Z L V I).elim fun y hy=>h4 L y hy,B,h5,fun O R=>⟨(h6 O R).1,(h6 O R).2.1,(h6 O R).2.2.1,fun L V I=>(Z L V I).elim fun y hy=>(h6 O R).2.2.2 L y hy⟩⟩ }
theorem A0.No {ro:Option Nat} {P:Program} {Q:Exit→SL→Ab→Prop} {sl:SL} {c:Code} (k sz b i:Nat) {cs:List SV} (hb:A7 bx b=some (.cells cs))(V:cs[i]? = some (.d .nil))(L:b≠k)
  (h:A0 ro P n c Q (Ub k sl) ((b,.cells ((cs.map (L6 k)).set i (.acc k)))::C3 b ((k,.rows sz [])::H7 k (C3 k bx)))) (J:k≤999999:=by decide):A0 ro P n c Q sl bx:=by
 intro C S w β a hs;obtain⟨h1,U⟩:=hs.inv.Vo (k:=k) (w':=w) (c:=.rows sz []) { base:=none,sz:=sz } J (by simp) (fun _ _ _=>rfl) rfl rfl rfl (Cq _) (fun _=>B8n);have E:(b,Ar.cells (cs.map (L6 k)))∈(k,Ar.rows sz [])::H7 k (C3 k bx):=by
  refine Ar6 _ ?_;have:∀{l:Ab} {x:Ar},(b,x)∈l→(b,x.Qu k)∈H7 k l:=by
   intro l
   induction l with
   |nil=>intro x hx;simp at hx
   |cons p l W =>
    intro x hx;obtain⟨q,y⟩:=p;rcases As.1 hx with R| hx
    ·simp only [Df] at R;obtain⟨rfl,rfl⟩:=R;exact An8 ..
    ·exact Ar6 _ (W hx)
  exact this (Dq.2 ⟨L,G0 hb⟩)
 have h3:=h1.E5b (cs':=(cs.map (L6 k)).set i (.acc k)) E (by
  intro vs hr;refine⟨by simpa using hr.1,?_⟩;intro j x v hx O;rw [Am6] at hx;split at hx
  ·rename_i I;subst I;split at hx
   ·simp only [Av] at hx;subst hx;have:=hr.2 i (.d .nil) v (by simp [V,L6,SV.has]) O;cases this with
    |d _ _ Z =>cases Z;have:=Am.acc (S:=S) (w:=w) (β:=E3 β k { base:=none,sz:=sz }) k;rw [G8] at this;exact this
   ·simp at hx
  ·exact hr.2 j x v hx O)
 refine h C S w _ a ⟨h3,hs.size,hs.defers,?_⟩;intro u;rw [A5j];exact (hs.slot u).Qu U
abbrev L9:List Nat:=[0,1,2,3,6,7,8,9,10,20,29,33,53,67]
theorem E2m (vars:List A3)(args:List Ty)(hC:∀(i:Nat)(u:Ty),args[i]? = some u→Ac prog 167 [Be u,Ct [],Cg []] (Be u)):∀t:Ty,t.Sm→Ac prog 167 [Be t,Ct vars,Cg args] (Be (t.subst vars args)):=by
 intro t
 induction t using Ty.induct with
 |h t ih =>
 intro Z;have a3:=Z.len;refine Cd.bd (Enters.of func167 rfl (by decide)) fun a2=>?_;have hv:=(B2t a2.2.1).1;have E:=Uq vars args t;refine cB func167 ?_;refine sR L9 ?_;refine kR L9 fun K1 u1=>?_;have O:(t.args.length=0∧0≤Cy t.name vars 0∧Cy t.name vars 0 < args.length)=False→∀sl bx,sle sl [(1,Ct vars),(2,Cg args),(3,.box 3 0),(6,.box 6 0)] →
   ble bx [(3,.cells [.d (.str t.name),Cg t.args,A9 t.pos]),(6,.cells [.d (.str []),.d .nil,.d (.int .i64 0)])]→K1 sl bx:=by
  intro hc sl bx h1 h2;refine u1 _ _ (A0.ww h1 h2 ?_);clear u1 K1;rw [A6 (by rw [hc];exact id)] at E;refine sR L9 ?_;refine A0.No 67 3 9 1 rfl rfl (by decide) ?_;refine kR L9 fun K1 u1=>?_;refine A0.bb (A0.ii t.args (X:=Unit) (fun j _=>[(1,Ct vars),(2,Cg args),(3,.box 3 0),(6,.box 6 0),(9,.box 9 0),(10,A9 j)])
   (fun j _=>[(3,.cells [.d (.str t.name),Cg t.args,A9 t.pos]),(6,.cells [.d (.str []),.d .nil,.d (.int .i64 0)]),(9,.cells [.d (.str t.name),.acc 67,A9 t.pos]),(67,.rows 3 (Aq ((t.args.take j).map (Ty.subst vars args))))])
   (fun j _=>True) () trivial sS (by simp [ble,A7,Cc]) ?_ ?_)
  ·intro _ _;rw [Cs];refine Ai B4 L9 fun J u2=>?_;refine A0.ss rfl ?_;simp only [A4,Aa,Af];refine u1 _ _ ?_;refine sR L9 ?_;rw [E];exact aR
  ·intro j _ d hd I dp tk V _;rw [tk];refine Ai V L9 fun J u2=>?_;refine gI u2 ?_;clear u2 J;refine sK fun J u2=>?_;refine A0.bb ?_
   (refine lG L9 [] 11 [] fun K z=>?_;refine ev ?_;refine ci (F5 hd) ?_;refine cc (ih d I (Z.arg d I)) ?_;refine⟨by simp,by simp only [B6,Cw];unfold lim sm at *;omega,?_⟩;(try refine ev ?_);apply z;clear z K;try simp only [A4,Aa])
   refine u2 _ _ ?_;clear u2 J
   (refine lV L9 fun K z=>?_;refine cl ?_;apply z;clear z K;try simp only [A4,])
   exact⟨(),trivial,sS,by simp [ble,A7,Cc,Bh]⟩
 by_cases ha:t.args.length=0
 ·have R:(t.args.length:Int)=0:=by omega
  refine A0.bb (A0.ii vars (X:=Unit) (fun j _=>[(1,Ct vars),(2,Cg args),(3,.box 3 0),(6,.box 6 0),(7,A9 j)])
   (fun _ _=>[(3,.cells [.d (.str t.name),Cg t.args,A9 t.pos]),(6,.cells [.d (.str []),.d .nil,.d (.int .i64 0)])])
   (fun j _=>Cy t.name (vars.drop j) j=Cy t.name vars 0) () rfl sS sB ?_ ?_)
  ·intro _ L;refine Ai B4 L9 fun J u2=>?_;refine A0.ss rfl ?_;simp only [A4,Aa,Af];rw [D6,Cy] at L;exact O (by rw [←L];simp) _ _ sS sB
  ·intro j _ d hd I dp tk V L;rw [dp,Cy] at L;refine Wc V R L9 fun J u2=>?_;refine gI u2 ?_;clear u2 J;refine sK fun J u2=>?_;refine A0.bb ?_
   (refine sG L9 [] 6 [] fun K z=>?_;refine ev ?_;refine ci (La hd) ?_;apply z;clear z K)
   refine A0.cond rfl (fun hc=>?_) (fun hc=>?_)
   ·have hn:d=t.name:=by simpa using hc
    rw [A8 hn.symm] at L;rw [←L] at E;have e0:(0:Int)≤(j:Int):=by omega
    refine kR L9 fun K3 u3=>?_;refine A0.Nk rfl u3 (fun U=>?_) (fun U=>?_)
    ·have a1:¬(j:Int) < (args.length:Int):=by
      have:=U;simp only [D8] at this;omega
     rw [A6 (fun h=>a1 h.2.2),Rk ha] at E;refine sR L9 ?_;rw [E,show t.args=[] from Rk ha];exact aR
    clear u3 K3;have a0:(j:Int) < (args.length:Int):=by have:=U;simp only [Vh] at this;omega
    rw [A8 ⟨ha,e0,a0⟩] at E;have hx:args[j]? = some args[j]:=Ba (by omega);rw [Gr,hx,Dc] at E;generalize args[j]=u at *
    (refine sV L9 fun K z=>?_;refine ci (F5 hx) ?_;refine cc (hC _ u hx) ?_;apply z;clear z K)
    refine sR L9 ?_;refine sR L9 ?_;rw [E];exact aR
   ·have hn:¬d=t.name:=by simpa using hc
    rw [A6 (fun h=>hn h.symm)] at L;refine A0.kk (u2 _ _ ?_);clear u2 J
    (refine lV L9 fun K z=>?_;refine cl ?_;apply z;clear z K;try simp only [A4,])
    exact⟨(),L,sS,sB⟩
 ·have R:¬(t.args.length:Int)=0:=by omega
  have W:(t.args.length=0∧0≤Cy t.name vars 0∧Cy t.name vars 0 < args.length)=False:=by simp [ha]
  refine A0.bb (A0.ii ([]:List Nat) (X:=Unit) (fun j _=>[(1,Ct vars),(2,Cg args),(3,.box 3 0),(6,.box 6 0),(7,A9 0)])
   (fun _ _=>[(3,.cells [.d (.str t.name),Cg t.args,A9 t.pos]),(6,.cells [.d (.str []),.d .nil,.d (.int .i64 0)])])
   (fun j _=>True) () trivial sS sB ?_ ?_)
  ·intro _ _;refine sK fun J u2=>?_;by_cases he:(0:Int) < (vars.length:Int)
   ·refine En R he L9 ?_;refine A0.ss rfl ?_;simp only [A4,Aa,Af];exact O W _ _ sS sB
   ·refine Ah he L9 ?_;refine A0.ss rfl ?_;simp only [A4,Aa,Af];exact O W _ _ sS sB
  ·intro j _ d hd;simp at hd
theorem E6u (t:Ty)(h:t.Sm):Ac prog 167 [Be t,Ct [],Cg []] (Be t):=by have:=E2m [] [] (by simp) t h;rw [A6m] at this;exact this
theorem Ur (vars:List A3)(args:List Ty)(I:∀u,u∈args→u.Sm)(t:Ty)(h:t.Sm):Ac prog 167 [Be t,Ct vars,Cg args] (Be (t.subst vars args)) :=
 E2m vars args (fun i u E=>E6u u (I u (Bx E))) t h
abbrev q4u:List Nat:=[0,1,2,6,7,8,12]
theorem E9c (vars:List A3)(args:List Ty)(L:∀u,u∈args→u.Sm)(l:List Ty)(U:l.length≤sm)(hs:∀t,t∈l→t.Sm) :
  Ac prog 287 [Cg l,Ct vars,Cg args] (Cg (l.map (Ty.subst vars args))):=by
 refine cB func287 ?_;refine sR q4u ?_;refine sR q4u ?_;refine A0.pp 7 3 7 rfl ?_;refine kR q4u fun W u1=>?_;refine A0.bb (A0.ii l (X:=Unit) (fun j _=>[(0,Cg l),(1,Ct vars),(2,Cg args),(7,.acc 7),(8,A9 j)]) (fun j _=>[(7,.rows 3 (Aq ((l.take j).map (Ty.subst vars args))))])
  (fun j _=>True) () trivial sS (by simp [ble,A7,Cc]) ?_ ?_)
 ·intro _ O;rw [Cs];refine Ai B4 q4u fun I u2=>?_;refine A0.ss rfl ?_;simp only [A4,Aa,Af];refine u1 _ _ ?_;refine sR q4u ?_;exact aR
 ·intro j _ d hd E V R J O;rw [R];refine Ai J q4u fun I u2=>?_;refine gI u2 ?_;clear u2 I;refine sK fun I u2=>?_;refine A0.bb ?_
  (refine lV q4u fun K z=>?_;refine ci (F5 hd) ?_;refine cc (Ur vars args L d (hs d E)) ?_;refine⟨by simp,by simp only [B6,Cw];unfold lim sm at *;omega,?_⟩;(try refine ev ?_);apply z;clear z K;try simp only [A4,Aa])
  refine u2 _ _ ?_;clear u2 I;refine lT q4u ?_;exact⟨(),trivial,sS,by simp [ble,A7,Cc,Bh]⟩
end Go.Abs
