/- several texts in one -/
import Derived.Test.YtfjaahliphbklaaGreatDoorJEV
namespace Go.Abs
set_option maxRecDepth 100000
set_option maxHeartbeats 1000000
set_option linter.unusedSimpArgs false
set_option linter.unusedVariables false
open Go Go.Proofs Tryz
mutual
def Ty.count:Ty→Int→Int
 | .mk n a _,k=>Ty.countL a (k+1+((n.length / 50:Nat):Int))
def Ty.countL:List Ty→Int→Int
 | [],k=>k
 | t::ts,k=>if k≤2000 then Ty.countL ts (t.count k) else k
end
theorem Ty.count_eq (t:Ty)(k:Int):t.count k=Ty.countL t.args (k+1+((t.name.length / 50:Nat):Int)):=by cases t;rfl
def cap:Int:=4611686018427387904
mutual
theorem Ty.count_bd:∀ (t:Ty)(k:Int),t.Ok→k≤t.count k∧t.count k≤max k 2000+2814749767107
 | .mk n a p,k,h=>by have hn:n.length≤lim:=h.name;have:=Ty.countL_bd a (k+1+((n.length / 50:Nat):Int)) (fun t ht=>h.arg t ht);simp only [Ty.count];unfold lim at hn;omega
theorem Ty.countL_bd:∀ (l:List Ty)(k:Int),(∀ t,t∈l→t.Ok)→k≤Ty.countL l k∧Ty.countL l k≤max k (2000+2814749767107)
 | [],k,_=>by simp only [Ty.countL];omega
 | t::ts,k,h=>by
  simp only [Ty.countL];split
  ·have h1:=Ty.count_bd t k (h t (by simp));have h2:=Ty.countL_bd ts (t.count k) (fun u hu=>h u (by simp [hu]));omega
  ·omega
end
abbrev q1r:List Nat:=[0,1,2,4,5,21]
theorem A4t:∀ (t:Ty)(n:Int),0≤n→n≤cap→A0a prog 125 [tyV t,A0g n] (A0g (t.count n)):=by
 intro t
 induction t using Ty.induct with
 | h t ih =>
 intro n h0 h1;refine A1p.bd (A1q.of func125 rfl (by decide)) fun hbd=>?_;have hok:=G2w hbd.1;have hname:=hok.name;have hlen:=hok.len;have hq:t.name.length / 50≤2814749767106:=by unfold lim at hname;omega
 refine cB func125 ?_;refine sR q1r ?_
 (refine sQ q1r fun K hK=>?_;refine ev ?_)
 refine⟨by unfold InR cap at *;omega,(by first | (unfold InR;omega) | (simp only [InR,sm,lim] at *;omega)),by unfold InR cap at *;omega,?_⟩
 (apply hK;clear hK K)
 refine kR q1r fun K1 u1=>?_;refine AWp.bb (AWp.loop (X:=Nat × Int) (fun x=>[(1,A0g x.2),(2,.box 2 0),(5,A0g x.1)]) (fun _=>[(2,.cells [.d (.str t.name),.d (.slice (tyR t.args)),.d (.int .i64 t.pos)])])
  (fun x=>x.1≤t.args.length∧0≤x.2∧x.2≤cap+2814749769108∧Ty.countL (t.args.drop x.1) x.2=t.count n) (fun x=>t.args.length - x.1) (0,n+1+((t.name.length / 50:Nat):Int)) ?_ ?_ ?_ ?_)
 ·exact⟨by simp,by omega,by unfold cap at *;omega,by rw [Ty.count_eq];rfl⟩
 ·simp [sle,vle,A0k]
 ·simp [ble,A0h]
 rintro⟨i,m⟩ ⟨hi,hm0,hm1,heq⟩;simp only at hi hm0 hm1 heq;have fin:∀ z:Int,z=t.count n→K1 [(0,.undef),(1,A0g z),(2,.box 2 0),(4,.undef),(5,A0g i),(21,A0m false)] [(2,.cells [.d (.str t.name),.d (.slice (tyR t.args)),.d (.int .i64 t.pos)])]:=by rintro z rfl;refine u1 _ _ ?_;refine sR q1r ?_;exact aR
 by_cases hlt:(i:Int) < (t.args.length:Int)
 ·have hlt':i < t.args.length:=by omega
  have hx:t.args[i]? = some t.args[i]:=List.getElem?_eq_getElem hlt';have hmem:t.args[i]∈t.args:=List.getElem_mem hlt';have dp:t.args.drop i=t.args[i]::t.args.drop (i+1):=List.drop_eq_getElem_cons hlt';generalize t.args[i]=x at *;rw [dp,Ty.countL] at heq;refine sK fun K2 u2=>?_;by_cases hm:m≤2000
  ·rw [if_pos hm] at heq;refine sR2 hlt hm q1r ?_;refine AWp.tt rfl (AWp.kk (u2 _ _ ?_));clear u2 K2;refine sK fun K2 u2=>?_;refine AWp.bb ?_
   (refine lQ q1r fun K hK=>?_;refine ev ?_)
   refine⟨by omega,tyC x,A0w hx,rfl,?_⟩;simp -implicitDefEqProofs only [EV,Nat.reduceAdd,Nat.reduceEqDiff,reduceCtorEq,tyC];refine⟨A0g (x.count m),.inl ⟨_,rfl,ih x hmem m hm0 (by unfold cap;omega),rfl⟩,?_⟩;refine ev ?_
   (apply hK;clear hK K;try simp only [A0c,A0e])
   refine u2 _ _ ?_;clear u2 K2
   (refine lQ q1r fun K hK=>?_;refine ev ?_)
   refine⟨by unfold InR;unfold lim at hlen;omega,?_⟩
   (apply hK;clear hK K;try simp only [A0c,])
   have hb:=Ty.count_bd x m (hok.arg x hmem);exact⟨(i+1,x.count m),⟨by simp only;omega,by simp only;omega,by simp only;unfold cap;omega,heq⟩,by simp only;omega,by simp [sle,vle,A0k],by simp [ble,A0h]⟩
  ·rw [if_neg hm] at heq;refine sR2 hlt hm q1r ?_;refine AWp.ff rfl (AWp.xx ?_);simp only [TB];exact fin m heq
 ·refine kR1 hlt q1r fun K2 u2=>?_;refine AWp.ff rfl (AWp.xx ?_);simp only [TB];rw [List.drop_eq_nil_of_le (by omega),Ty.countL] at heq;exact fin m heq
theorem A3g {n:Nat} (h:n≤lim):n / 50≤2814749767106:=by unfold lim at h;omega
mutual
def Ex.count:Ex→Int→Int
 | .mk _ nm t ta ks _,n=>Ex.countL ks (Ty.countL ta (t.count (n+((nm.length / 50:Nat):Int))))
def Ex.countL:List Ex→Int→Int
 | [],n=>n
 | e::es,n=>if n≤2000 then Ex.countL es (e.count n) else n
end
theorem Ex.count_eq (e:Ex)(n:Int):e.count n=Ex.countL e.kids (Ty.countL e.targs (e.type.count (n+((e.name.length / 50:Nat):Int)))):=by cases e;rfl
mutual
theorem Ex.count_bd:∀ (e:Ex)(n:Int),e.Ok→n≤e.count n∧e.count n≤max n 2000+6000000000000
 | .mk k nm t ta ks p,n,h=>by
  have h1:=A3g h.name;have h2:=Ty.count_bd t (n+((nm.length / 50:Nat):Int)) h.type;have h3:=Ty.countL_bd ta (t.count (n+((nm.length / 50:Nat):Int))) h.targs.2;have h4:=Ex.countL_bd ks (Ty.countL ta (t.count (n+((nm.length / 50:Nat):Int)))) h.kids.2;have h1':((nm.length / 50:Nat):Int)≤2814749767106:=by simp only [Ex.name] at h1;omega
  simp only [Ex.count];have h0:0≤((nm.length / 50:Nat):Int):=by omega
  generalize ((nm.length / 50:Nat):Int)=q at *;omega
theorem Ex.countL_bd:∀ (l:List Ex)(n:Int),(∀ t,t∈l→t.Ok)→n≤Ex.countL l n∧Ex.countL l n≤max n (2000+6000000000000)
 | [],n,_=>by simp only [Ex.countL];omega
 | t::ts,n,h=>by
  simp only [Ex.countL];split
  ·have h1:=Ex.count_bd t n (h t (by simp));have h2:=Ex.countL_bd ts (t.count n) (fun u hu=>h u (by simp [hu]));omega
  ·omega
end
abbrev q2r:List Nat:=[0,1,2,4,5,6,24,42]
theorem C4y:∀ (e:Ex)(n:Int),0≤n→n≤cap - 100000000000000→A0a prog 100 [exV e,A0g n] (A0g (e.count n)):=by
 intro e
 induction e using Ex.induct with
 | h e ih =>
 intro n h0 h1;refine A1p.bd (A1q.of func100 rfl (by decide)) fun hbd=>?_;have hok:=G2o hbd.1;have hq:=A3g hok.name;have ht:=Ty.count_bd e.type (n+((e.name.length / 50:Nat):Int)) hok.type;have ht2:=Ty.countL_bd e.targs (e.type.count (n+((e.name.length / 50:Nat):Int))) hok.targs.2;have hl1:=hok.targs.1;have hl2:=hok.kids.1;have heqn:=Ex.count_eq e n;refine cB func100 ?_;refine sR q2r ?_
 (refine sQ q2r fun K hK=>?_;refine ev ?_)
 refine⟨(by first | (unfold InR;omega) | (simp only [InR,sm,lim] at *;omega)),by unfold InR cap at *;omega,A0g (e.type.count (n+((e.name.length / 50:Nat):Int))),.inl ⟨_,rfl,A4t e.type _ (by omega) (by unfold cap at *;omega),rfl⟩,?_⟩;refine ev ?_
 (apply hK;clear hK K)
 generalize e.type.count (n+((e.name.length / 50:Nat):Int))=n1 at *;refine sK fun K1 u1=>?_;have fin:∀ sl bx,sle sl [(1,A0g (Ty.countL e.targs n1)),(2,.box 2 0)]→ble bx [(2,.cells ((exC e).map .d))]→K1 sl bx:=by
  intro sl bx h1 h2;refine u1 _ _ (AWp.ww h1 h2 ?_);clear u1 K1;generalize Ty.countL e.targs n1=n2 at *;refine kR q2r fun K1 u1=>?_;have fin:∀ sl bx,sle sl [(1,A0g (Ex.countL e.kids n2))]→ble bx []→K1 sl bx:=by intro sl bx h1 h2;refine u1 _ _ (AWp.ww h1 h2 ?_);refine sR q2r ?_;rw [heqn];exact aR
  refine AWp.bb (AWp.loop (X:=Nat × Int) (fun x=>[(1,A0g x.2),(6,A0g x.1),(2,.box 2 0)]) (fun _=>[(2,.cells ((exC e).map .d))])
   (fun x=>x.1≤e.kids.length∧0≤x.2∧x.2≤cap+100000000000000∧Ex.countL (e.kids.drop x.1) x.2=Ex.countL e.kids n2) (fun x=>e.kids.length - x.1) (0,n2) ?_ ?_ ?_ ?_)
  ·exact⟨by simp,by omega,by unfold cap at *;omega,by first | rfl | simp⟩
  ·simp [sle,vle,A0k]
  ·exact (by simp [ble,A0h,exC,])
  rintro⟨i,m⟩ ⟨hi,hm0,hm1,heq⟩;simp only at hi hm0 hm1 heq;by_cases hlt:(i:Int) < (e.kids.length:Int)
  ·have hlt':i < e.kids.length:=by omega
   have hx:e.kids[i]? = some e.kids[i]:=List.getElem?_eq_getElem hlt';have hmem:e.kids[i]∈e.kids:=List.getElem_mem hlt';have dp:e.kids.drop i=e.kids[i]::e.kids.drop (i+1):=List.drop_eq_getElem_cons hlt';generalize e.kids[i]=x at *;rw [dp,Ex.countL] at heq;refine sK fun K2 u2=>?_;by_cases hm:m≤2000
   ·rw [if_pos hm] at heq;refine sR2 hlt hm q2r ?_;refine AWp.tt rfl (AWp.kk (u2 _ _ ?_));clear u2 K2;refine sK fun K2 u2=>?_;refine AWp.bb ?_
    (refine lQ q2r fun K hK=>?_;refine ev ?_)
    (refine⟨by omega,exC x,A1h hx,rfl,?_⟩;refine ev ?_;refine⟨A0g (x.count m),.inl ⟨_,rfl,ih x hmem m hm0 (by unfold cap;omega),rfl⟩,?_⟩;refine ev ?_)
    (apply hK;clear hK K;try simp only [A0c,A0e])
    refine u2 _ _ ?_;clear u2 K2
    (refine lQ q2r fun K hK=>?_;refine ev ?_)
    refine⟨by unfold InR;unfold lim at *;omega,?_⟩
    (apply hK;clear hK K;try simp only [A0c,])
    have hb:=Ex.count_bd x m (hok.kids.2 x hmem);exact⟨(i+1,x.count m),⟨by simp only;omega,by simp only;omega,by simp only;unfold cap;omega,heq⟩,by simp only;omega,by simp [sle,vle,A0k],(by simp [ble,A0h,exC,])⟩
   ·rw [if_neg hm] at heq;refine sR2 hlt hm q2r ?_;refine AWp.ff rfl (AWp.xx ?_);simp only [TB];exact fin _ _ (by simp [sle,vle,A0k,heq]) sB
  ·refine kR1 hlt q2r fun K2 u2=>?_;refine AWp.ff rfl (AWp.xx ?_);simp only [TB];rw [List.drop_eq_nil_of_le (by omega),Ex.countL] at heq;exact fin _ _ (by simp [sle,vle,A0k,heq]) sB
 refine sR q2r ?_;refine AWp.bb (AWp.loop (X:=Nat × Int) (fun x=>[(1,A0g x.2),(5,A0g x.1),(2,.box 2 0)]) (fun _=>[(2,.cells ((exC e).map .d))])
  (fun x=>x.1≤e.targs.length∧0≤x.2∧x.2≤cap+100000000000000∧Ty.countL (e.targs.drop x.1) x.2=Ty.countL e.targs n1) (fun x=>e.targs.length - x.1) (0,n1) ?_ ?_ ?_ ?_)
 ·exact⟨by simp,by omega,by unfold cap at *;omega,by first | rfl | simp⟩
 ·simp [sle,vle,A0k]
 ·exact (by simp [ble,A0h,exC,])
 rintro⟨i,m⟩ ⟨hi,hm0,hm1,heq⟩;simp only at hi hm0 hm1 heq;by_cases hlt:(i:Int) < (e.targs.length:Int)
 ·have hlt':i < e.targs.length:=by omega
  have hx:e.targs[i]? = some e.targs[i]:=List.getElem?_eq_getElem hlt';have hmem:e.targs[i]∈e.targs:=List.getElem_mem hlt';have dp:e.targs.drop i=e.targs[i]::e.targs.drop (i+1):=List.drop_eq_getElem_cons hlt';generalize e.targs[i]=x at *;rw [dp,Ty.countL] at heq;refine sK fun K2 u2=>?_;by_cases hm:m≤2000
  ·rw [if_pos hm] at heq;refine sR2 hlt hm q2r ?_;refine AWp.tt rfl (AWp.kk (u2 _ _ ?_));clear u2 K2;refine sK fun K2 u2=>?_;refine AWp.bb ?_
   (refine lQ q2r fun K hK=>?_;refine ev ?_)
   (refine⟨by omega,tyC x,A0w hx,rfl,?_⟩;refine ev ?_;refine⟨A0g (x.count m),.inl ⟨_,rfl,A4t x m hm0 (by unfold cap;omega),rfl⟩,?_⟩;refine ev ?_)
   (apply hK;clear hK K;try simp only [A0c,A0e])
   refine u2 _ _ ?_;clear u2 K2
   (refine lQ q2r fun K hK=>?_;refine ev ?_)
   refine⟨by unfold InR;unfold lim at *;omega,?_⟩
   (apply hK;clear hK K;try simp only [A0c,])
   have hb:=Ty.count_bd x m (hok.targs.2 x hmem);exact⟨(i+1,x.count m),⟨by simp only;omega,by simp only;omega,by simp only;unfold cap;omega,heq⟩,by simp only;omega,by simp [sle,vle,A0k],(by simp [ble,A0h,exC,])⟩
  ·rw [if_neg hm] at heq;refine sR2 hlt hm q2r ?_;refine AWp.ff rfl (AWp.xx ?_);simp only [TB];exact fin _ _ (by simp [sle,vle,A0k,heq]) (by simp [ble,A0h,exC,])
 ·refine kR1 hlt q2r fun K2 u2=>?_;refine AWp.ff rfl (AWp.xx ?_);simp only [TB];rw [List.drop_eq_nil_of_le (by omega),Ty.countL] at heq;exact fin _ _ (by simp [sle,vle,A0k,heq]) (by simp [ble,A0h,exC,])
def A0i:List Formal→Int→Int
 | [],n=>n
 | f::fs,n=>if n≤2000 then A0i fs (f.bound.count (n+1+((f.name.length / 50:Nat):Int))) else n
def A0p:List Param→Int→Int
 | [],n=>n
 | f::fs,n=>if n≤2000 then A0p fs (f.type.count (n+1+((f.name.length / 50:Nat):Int))) else n
theorem F8d (f:Formal)(n:Int)(h:f.Ok):n≤f.bound.count (n+1+((f.name.length / 50:Nat):Int))∧f.bound.count (n+1+((f.name.length / 50:Nat):Int))≤max n 2000+6000000000000:=by have h1:=A3g h.name;have h2:=Ty.count_bd f.bound (n+1+((f.name.length / 50:Nat):Int)) h.bound;omega
theorem F8j (f:Param)(n:Int)(h:f.Ok):n≤f.type.count (n+1+((f.name.length / 50:Nat):Int))∧f.type.count (n+1+((f.name.length / 50:Nat):Int))≤max n 2000+6000000000000:=by have h1:=A3g h.name;have h2:=Ty.count_bd f.type (n+1+((f.name.length / 50:Nat):Int)) h.type;omega
theorem A9d:∀ (l:List Formal)(n:Int),(∀ t,t∈l→t.Ok)→n≤A0i l n∧A0i l n≤max n (2000+6000000000000)
 | [],n,_=>by simp only [A0i];omega
 | t::ts,n,h=>by
  simp only [A0i];split
  ·have h1:=F8d t n (h t (by simp));have h2:=A9d ts (t.bound.count (n+1+((t.name.length / 50:Nat):Int))) (fun u hu=>h u (by simp [hu]));omega
  ·omega
theorem A9p:∀ (l:List Param)(n:Int),(∀ t,t∈l→t.Ok)→n≤A0p l n∧A0p l n≤max n (2000+6000000000000)
 | [],n,_=>by simp only [A0p];omega
 | t::ts,n,h=>by
  simp only [A0p];split
  ·have h1:=F8j t n (h t (by simp));have h2:=A9p ts (t.type.count (n+1+((t.name.length / 50:Nat):Int))) (fun u hu=>h u (by simp [hu]));omega
  ·omega
abbrev q3r:List Nat:=[0,1,4,5,13]
theorem C6p (l:List Formal)(n:Int)(h0:0≤n)(h1:n≤cap - 100000000000000):A0a prog 102 [.d (.slice (foR l)),A0g n] (A0g (A0i l n)):=by
 refine A1p.bd (A1q.of func102 rfl (by decide)) fun hbd=>?_;have hok:=D4x hbd.1;have hl:=hok.1;refine cB func102 ?_;refine sR q3r ?_;refine sK fun K1 u1=>?_;have fin:∀ sl bx,sle sl [(1,A0g (A0i l n))]→ble bx []→K1 sl bx:=by intro sl bx h1 h2;refine u1 _ _ (AWp.ww h1 h2 ?_);clear u1 K1;refine sR q3r ?_;exact aR
 refine sR q3r ?_;refine AWp.bb (AWp.loop (X:=Nat × Int) (fun x=>[(1,A0g x.2),(5,A0g x.1),(0,.d (.slice (foR l)))]) (fun _=>[])
  (fun x=>x.1≤l.length∧0≤x.2∧x.2≤cap+100000000000000∧A0i (l.drop x.1) x.2=A0i l n) (fun x=>l.length - x.1) (0,n) ?_ ?_ ?_ ?_)
 ·exact⟨by simp,by omega,by unfold cap at *;omega,by first | rfl | simp⟩
 ·simp [sle,vle,A0k]
 ·exact sB
 rintro⟨i,m⟩ ⟨hi,hm0,hm1,heq⟩;simp only at hi hm0 hm1 heq;by_cases hlt:(i:Int) < (l.length:Int)
 ·have hlt':i < l.length:=by omega
  have hx:l[i]? = some l[i]:=List.getElem?_eq_getElem hlt';have hmem:l[i]∈l:=List.getElem_mem hlt';have dp:l.drop i=l[i]::l.drop (i+1):=List.drop_eq_getElem_cons hlt';generalize l[i]=x at *;rw [dp,A0i] at heq;refine sK fun K2 u2=>?_;by_cases hm:m≤2000
  ·rw [if_pos hm] at heq;refine sR2 hlt hm q3r ?_;refine AWp.tt rfl (AWp.kk (u2 _ _ ?_));clear u2 K2;refine sK fun K2 u2=>?_;refine AWp.bb ?_
   (refine lG q3r [] 15 [] fun K hK=>?_;simp -implicitDefEqProofs only [EV,Nat.reduceAdd,Nat.reduceEqDiff,reduceCtorEq,A6s,C3x,B0g])
   (have hq:=A3g (hok.2 x hmem).name;refine⟨by omega,foC x,A0v hx,rfl,?_⟩;refine ev ?_;refine⟨by unfold InR cap at *;omega,by omega,foC x,A0v hx,rfl,?_⟩;refine ev ?_;refine⟨(by first | (unfold InR;omega) | (simp only [InR,sm,lim] at *;omega)),by unfold InR cap at *;omega,A0g (x.bound.count (m+1+((x.name.length / 50:Nat):Int))),.inl ⟨_,rfl,A4t _ _ (by omega) (by unfold cap at *;omega),rfl⟩,?_⟩;refine ev ?_)
   (apply hK;clear hK K;try simp only [A0c,A0e])
   refine u2 _ _ ?_;clear u2 K2
   (refine lQ q3r fun K hK=>?_;refine ev ?_)
   refine⟨by unfold InR;unfold lim at *;omega,?_⟩
   (apply hK;clear hK K;try simp only [A0c,])
   have hb:=F8d x m (hok.2 x hmem);exact⟨(i+1,x.bound.count (m+1+((x.name.length / 50:Nat):Int))),⟨by simp only;omega,by simp only;omega,by simp only;unfold cap;omega,heq⟩,by simp only;omega,by simp [sle,vle,A0k],sB⟩
  ·rw [if_neg hm] at heq;refine sR2 hlt hm q3r ?_;refine AWp.ff rfl (AWp.xx ?_);simp only [TB];exact fin _ _ (by simp [sle,vle,A0k,heq]) sB
 ·refine kR1 hlt q3r fun K2 u2=>?_;refine AWp.ff rfl (AWp.xx ?_);simp only [TB];rw [List.drop_eq_nil_of_le (by omega),A0i] at heq;exact fin _ _ (by simp [sle,vle,A0k,heq]) sB
abbrev q4r:List Nat:=[0,1,4,5,13]
theorem C7b (l:List Param)(n:Int)(h0:0≤n)(h1:n≤cap - 100000000000000):A0a prog 101 [.d (.slice (paR l)),A0g n] (A0g (A0p l n)):=by
 refine A1p.bd (A1q.of func101 rfl (by decide)) fun hbd=>?_;have hok:=D1d hbd.1;have hl:=hok.1;refine cB func101 ?_;refine sR q4r ?_;refine sK fun K1 u1=>?_;have fin:∀ sl bx,sle sl [(1,A0g (A0p l n))]→ble bx []→K1 sl bx:=by intro sl bx h1 h2;refine u1 _ _ (AWp.ww h1 h2 ?_);clear u1 K1;refine sR q4r ?_;exact aR
 refine sR q4r ?_;refine AWp.bb (AWp.loop (X:=Nat × Int) (fun x=>[(1,A0g x.2),(5,A0g x.1),(0,.d (.slice (paR l)))]) (fun _=>[])
  (fun x=>x.1≤l.length∧0≤x.2∧x.2≤cap+100000000000000∧A0p (l.drop x.1) x.2=A0p l n) (fun x=>l.length - x.1) (0,n) ?_ ?_ ?_ ?_)
 ·exact⟨by simp,by omega,by unfold cap at *;omega,by first | rfl | simp⟩
 ·simp [sle,vle,A0k]
 ·exact sB
 rintro⟨i,m⟩ ⟨hi,hm0,hm1,heq⟩;simp only at hi hm0 hm1 heq;by_cases hlt:(i:Int) < (l.length:Int)
 ·have hlt':i < l.length:=by omega
  have hx:l[i]? = some l[i]:=List.getElem?_eq_getElem hlt';have hmem:l[i]∈l:=List.getElem_mem hlt';have dp:l.drop i=l[i]::l.drop (i+1):=List.drop_eq_getElem_cons hlt';generalize l[i]=x at *;rw [dp,A0p] at heq;refine sK fun K2 u2=>?_;by_cases hm:m≤2000
  ·rw [if_pos hm] at heq;refine sR2 hlt hm q4r ?_;refine AWp.tt rfl (AWp.kk (u2 _ _ ?_));clear u2 K2;refine sK fun K2 u2=>?_;refine AWp.bb ?_
   (refine lG q4r [] 15 [] fun K hK=>?_;simp -implicitDefEqProofs only [EV,Nat.reduceAdd,Nat.reduceEqDiff,reduceCtorEq,A6s,C4a,E2k])
   (have hq:=A3g (hok.2 x hmem).name;refine⟨by omega,paC x,A0r hx,rfl,?_⟩;refine ev ?_;refine⟨by unfold InR cap at *;omega,by omega,paC x,A0r hx,rfl,?_⟩;refine ev ?_;refine⟨(by first | (unfold InR;omega) | (simp only [InR,sm,lim] at *;omega)),by unfold InR cap at *;omega,A0g (x.type.count (m+1+((x.name.length / 50:Nat):Int))),.inl ⟨_,rfl,A4t _ _ (by omega) (by unfold cap at *;omega),rfl⟩,?_⟩;refine ev ?_)
   (apply hK;clear hK K;try simp only [A0c,A0e])
   refine u2 _ _ ?_;clear u2 K2
   (refine lQ q4r fun K hK=>?_;refine ev ?_)
   refine⟨by unfold InR;unfold lim at *;omega,?_⟩
   (apply hK;clear hK K;try simp only [A0c,])
   have hb:=F8j x m (hok.2 x hmem);exact⟨(i+1,x.type.count (m+1+((x.name.length / 50:Nat):Int))),⟨by simp only;omega,by simp only;omega,by simp only;unfold cap;omega,heq⟩,by simp only;omega,by simp [sle,vle,A0k],sB⟩
  ·rw [if_neg hm] at heq;refine sR2 hlt hm q4r ?_;refine AWp.ff rfl (AWp.xx ?_);simp only [TB];exact fin _ _ (by simp [sle,vle,A0k,heq]) sB
 ·refine kR1 hlt q4r fun K2 u2=>?_;refine AWp.ff rfl (AWp.xx ?_);simp only [TB];rw [List.drop_eq_nil_of_le (by omega),A0p] at heq;exact fin _ _ (by simp [sle,vle,A0k,heq]) sB
def Sig.count (s:Sig)(n:Int):Int:=s.result.count (A0p s.params (A0i s.formals (n+((s.name.length / 50:Nat):Int))))
theorem Sig.count_bd (s:Sig)(n:Int)(h:s.Ok):n≤s.count n∧s.count n≤max n 2000+10000000000000:=by have h1:=A3g h.name;have h2:=A9d s.formals (n+((s.name.length / 50:Nat):Int)) h.formals.2;have h3:=A9p s.params (A0i s.formals (n+((s.name.length / 50:Nat):Int))) h.params.2;have h4:=Ty.count_bd s.result (A0p s.params (A0i s.formals (n+((s.name.length / 50:Nat):Int)))) h.result;unfold Sig.count;omega
theorem C2z (s:Sig)(n:Int)(h0:0≤n)(h1:n≤cap - 200000000000000):A0a prog 103 [siV s,A0g n] (A0g (s.count n)):=by
 refine A1p.bd (A1q.of func103 rfl (by decide)) fun hbd=>?_;have h:=G2g hbd.1;have hq:=A3g h.name;have h2:=A9d s.formals (n+((s.name.length / 50:Nat):Int)) h.formals.2;have h3:=A9p s.params (A0i s.formals (n+((s.name.length / 50:Nat):Int))) h.params.2;refine cB func103 ?_;refine sR [0,1,2,4] ?_
 (refine sG [0,1,2,4] [] 14 [] fun K hK=>?_;refine ev ?_)
 refine⟨(by first | (unfold InR;omega) | (simp only [InR,sm,lim] at *;omega)),by unfold InR cap at *;omega,A0g (A0i s.formals (n+((s.name.length / 50:Nat):Int))),.inl ⟨_,rfl,C6p _ _ (by omega) (by unfold cap at *;omega),rfl⟩,?_⟩;refine ev ?_;refine⟨A0g (A0p s.params (A0i s.formals (n+((s.name.length / 50:Nat):Int)))),.inl ⟨_,rfl,C7b _ _ (by omega) (by unfold cap at *;omega),rfl⟩,?_⟩;refine ev ?_;refine⟨A0g (s.count n),.inl ⟨_,rfl,A4t _ _ (by omega) (by unfold cap at *;omega),rfl⟩,?_⟩;refine ev ?_
 (apply hK;clear hK K)
 exact aR
def A2i:List Str→Int→Int
 | [],n=>n
 | v::vs,n=>if n≤2000 then A2i vs (n+1+((v.length / 50:Nat):Int)) else n
def A0u:List Sig→Int→Int
 | [],n=>n
 | s::ss,n=>if n≤2000 then A0u ss (s.count n) else n
def Decl.count2 (d:Decl)(n:Int):Int:=if n≤2000 then d.body.count (d.sig.count n) else n
def Decl.count (d:Decl)(n:Int):Int :=
 d.count2 (A2i d.vars (A0u d.sigs (A0p d.fields (A0i d.formals (n+1+((d.name.length / 50:Nat):Int)+((d.recv.length / 50:Nat):Int))))))
def A2n:List Decl→Int→Int
 | [],n=>n
 | d::ds,n=>if n≤2000 then A2n ds (d.count n) else n
def Prog.count (p:Prog):Int:=A2n p.decls (p.main.count 0)
theorem B8a:∀ (l:List Str)(n:Int),(∀ t,t∈l→t.length≤lim)→n≤A2i l n∧A2i l n≤max n (2000+6000000000000)
 | [],n,_=>by simp only [A2i];omega
 | t::ts,n,h=>by
  simp only [A2i];split
  ·have h1:=A3g (h t (by simp));have h2:=B8a ts (n+1+((t.length / 50:Nat):Int)) (fun u hu=>h u (by simp [hu]));omega
  ·omega
theorem B7f:∀ (l:List Sig)(n:Int),(∀ t,t∈l→t.Ok)→n≤A0u l n∧A0u l n≤max n (2000+10000000000000)
 | [],n,_=>by simp only [A0u];omega
 | t::ts,n,h=>by
  simp only [A0u];split
  ·have h1:=Sig.count_bd t n (h t (by simp));have h2:=B7f ts (t.count n) (fun u hu=>h u (by simp [hu]));omega
  ·omega
theorem Decl.count2_bd (d:Decl)(n:Int)(h:d.Ok):n≤d.count2 n∧d.count2 n≤max n (2000+20000000000000):=by have h1:=Sig.count_bd d.sig n h.sig;have h2:=Ex.count_bd d.body (d.sig.count n) h.body;unfold Decl.count2;split <;> omega
theorem Decl.count_bd (d:Decl)(n:Int)(h:d.Ok):n≤d.count n∧d.count n≤max n 2000+30000000000000:=by have h1:=A3g h.name;have h2:=A3g h.recv;unfold Decl.count;generalize hq:n+1+((d.name.length / 50:Nat):Int)+((d.recv.length / 50:Nat):Int)=n0;have h3:=A9d d.formals n0 h.formals.2;have h4:=A9p d.fields (A0i d.formals n0) h.fields.2;have h5:=B7f d.sigs (A0p d.fields (A0i d.formals n0)) h.sigs.2;have h6:=B8a d.vars (A0u d.sigs (A0p d.fields (A0i d.formals n0))) h.vars.2;have h7:=Decl.count2_bd d (A2i d.vars (A0u d.sigs (A0p d.fields (A0i d.formals n0)))) h;omega
abbrev q5r:List Nat:=[0,1,2,3,4,5,6,7,19,53,71,85]
set_option maxHeartbeats 2000000 in
theorem E4p (p:Prog):A0a prog 43 [prV p] (A0g p.count):=by
 refine A1p.bd (A1q.of func43 rfl (by decide)) fun hbd=>?_;have hok:=C0q hbd.1;have he:=Ex.count_bd p.main 0 hok.main;have hl:=hok.decls.1;have hcount:p.count=A2n p.decls (p.main.count 0):=rfl;refine cB func43 ?_;refine sR q5r ?_
 (refine sQ q5r fun K hK=>?_;refine ev ?_)
 refine⟨A0g (p.main.count 0),.inl ⟨_,rfl,C4y _ 0 (by omega) (by unfold cap;omega),rfl⟩,?_⟩;refine ev ?_
 (apply hK;clear hK K)
 generalize p.main.count 0=n1 at *;refine sK fun K1 u1=>?_;have fin:∀ sl bx,sle sl [(3,A0g (A2n p.decls n1))]→ble bx []→K1 sl bx:=by intro sl bx h1 h2;refine u1 _ _ (AWp.ww h1 h2 ?_);clear u1 K1;refine sR q5r ?_;rw [hcount];exact aR
 refine sR q5r ?_;refine AWp.bb (AWp.loop (X:=Nat × Int) (fun x=>[(3,A0g x.2),(4,A0g x.1),(1,.box 1 0)]) (fun _=>[(1,.cells ((prC p).map .d))])
  (fun x=>x.1≤p.decls.length∧0≤x.2∧x.2≤100000000000000∧A2n (p.decls.drop x.1) x.2=A2n p.decls n1) (fun x=>p.decls.length - x.1) (0,n1) ?_ ?_ ?_ ?_)
 ·exact⟨by simp,by omega,by omega,by first | rfl | simp⟩
 ·exact sS
 ·exact (by simp [ble,A0h,prC])
 rintro⟨j,k⟩ ⟨hj,hk0,hk1,heq⟩;simp only at hj hk0 hk1 heq;by_cases hlt:(j:Int) < (p.decls.length:Int)
 ·have hlt':j < p.decls.length:=by omega
  have hy:p.decls[j]? = some p.decls[j]:=List.getElem?_eq_getElem hlt';have hmemy:p.decls[j]∈p.decls:=List.getElem_mem hlt';have dp:p.decls.drop j=p.decls[j]::p.decls.drop (j+1):=List.drop_eq_getElem_cons hlt';generalize p.decls[j]=y at *;have hyok:=hok.decls.2 y hmemy;rw [dp,A2n] at heq;refine sK fun K2 u2=>?_;by_cases hm:k≤2000
  ·rw [if_pos hm] at heq;refine sR2 hlt hm q5r ?_;refine AWp.tt rfl (AWp.kk (u2 _ _ ?_));clear u2 K2;refine sK fun K2 u2=>?_;have fin:∀ sl bx,sle sl [(3,A0g (y.count k)),(4,A0g j),(1,.box 1 0)]→ble bx [(1,.cells ((prC p).map .d))]→K2 sl bx:=by
    intro sl bx h1 h2;refine u2 _ _ (AWp.ww h1 h2 ?_);clear u2 K2
    (refine lQ q5r fun K hK=>?_;refine ev ?_)
    refine⟨by unfold InR;unfold lim at *;omega,?_⟩
    (apply hK;clear hK K;try simp only [A0c,])
    have hb:=Decl.count_bd y k hyok;exact⟨(j+1,y.count k),⟨by simp only;omega,by simp only;omega,by simp only;omega,heq⟩,by simp only;omega,by simp [sle,vle,A0k],(by simp [ble,A0h,prC])⟩
   clear u2;have hyc:y.count k=y.count2 (A2i y.vars (A0u y.sigs (A0p y.fields (A0i y.formals (k+1+((y.name.length / 50:Nat):Int)+((y.recv.length / 50:Nat):Int)))))):=rfl;generalize y.count k=res at *;have hq1:=A3g hyok.name;have hq2:=A3g hyok.recv;refine AWp.bb ?_
   (refine sQ q5r fun K hK=>?_;refine ev ?_)
   refine⟨by omega,deC y,A0t hy,rfl,?_⟩;refine ev ?_
   (apply hK;clear hK K)
   (refine sG q5r [] 17 [] fun K hK=>?_;simp -implicitDefEqProofs only [EV,Nat.reduceAdd,Nat.reduceEqDiff,Int.reduceEq,reduceCtorEq,TF9,C3x,C4a,E1b,])
   generalize hq3:k+1+((y.name.length / 50:Nat):Int)+((y.recv.length / 50:Nat):Int)=n2 at *;have h3:=A9d y.formals n2 hyok.formals.2;have h4:=A9p y.fields (A0i y.formals n2) hyok.fields.2;refine⟨(by first | (unfold InR;omega) | (simp only [InR,sm,lim] at *;omega)),(by first | (unfold InR;omega) | (simp only [InR,sm,lim] at *;omega)),(by first | (unfold InR;omega) | (simp only [InR,sm,lim] at *;omega)),(by first | (unfold InR;omega) | (simp only [InR,sm,lim] at *;omega)),(by first | (unfold InR;omega) | (simp only [InR,sm,lim] at *;omega)),A0g (A0i y.formals n2),.inl ⟨_,rfl,C6p _ _ (by omega) (by unfold cap;omega),rfl⟩,?_⟩;refine ev ?_;refine⟨A0g (A0p y.fields (A0i y.formals n2)),.inl ⟨_,rfl,C7b _ _ (by omega) (by unfold cap;omega),rfl⟩,?_⟩;refine ev ?_
   (apply hK;clear hK K)
   generalize hn3:A0p y.fields (A0i y.formals n2)=n3 at *;have hl1:=hyok.sigs.1;have hl2:=hyok.vars.1;have h5:=B7f y.sigs n3 hyok.sigs.2;have h6:=B8a y.vars (A0u y.sigs n3) hyok.vars.2;have hb1:=Sig.count_bd y.sig (A2i y.vars (A0u y.sigs n3)) hyok.sig;have hb2:=Ex.count_bd y.body (y.sig.count (A2i y.vars (A0u y.sigs n3))) hyok.body;refine sK fun K3 u3=>?_;have fin:∀ sl bx,sle sl [(3,A0g (A0u y.sigs n3)),(4,A0g j),(1,.box 1 0),(5,.box 5 0)]→ble bx [(1,.cells ((prC p).map .d)),(5,.cells ((deC y).map .d))]→K3 sl bx:=by
    intro sl bx h1 h2;refine u3 _ _ (AWp.ww h1 h2 ?_);clear u3 K3;generalize hn4:A0u y.sigs n3=n4 at *;refine sK fun K3 u3=>?_;have fin:∀ sl bx,sle sl [(3,A0g (A2i y.vars n4)),(4,A0g j),(1,.box 1 0),(5,.box 5 0)]→ble bx [(1,.cells ((prC p).map .d)),(5,.cells ((deC y).map .d))]→K3 sl bx:=by
     intro sl bx h1 h2;refine u3 _ _ (AWp.ww h1 h2 ?_);clear u3 K3;generalize hn5:A2i y.vars n4=n5 at *;refine sR q5r ?_;unfold Decl.count2 at hyc;by_cases hlast:n5≤2000
     ·rw [if_pos hlast] at hyc;refine AWp.tt (by simp [opnd,A0k,hlast]) ?_
      (refine lG q5r [] 6 [] fun K hK=>?_;refine ev1 hlast ?_)
      refine⟨A0g (y.sig.count n5),.inl ⟨_,rfl,C2z _ _ (by omega) (by unfold cap;omega),rfl⟩,?_⟩;refine ev ?_;refine⟨A0g (y.body.count (y.sig.count n5)),.inl ⟨_,rfl,C4y _ _ (by omega) (by unfold cap;omega),rfl⟩,?_⟩;refine ev ?_
      (apply hK;clear hK K;try simp only [A0c,A0e])
      exact fin _ _ (by simp [sle,vle,A0k,hyc]) (by simp [ble,A0h,prC])
     ·rw [if_neg hlast] at hyc;refine AWp.ff (by simp [opnd,A0k,hlast]) (AWp.kk ?_);simp only [A0c,A0e];exact fin _ _ (by simp [sle,vle,A0k,hyc]) (by simp [ble,A0h,prC])
    refine sR q5r ?_;refine AWp.bb (AWp.loop (X:=Nat × Int) (fun x=>[(3,A0g x.2),(7,A0g x.1),(4,A0g j),(1,.box 1 0),(5,.box 5 0)]) (fun _=>[(1,.cells ((prC p).map .d)),(5,.cells ((deC y).map .d))])
     (fun x=>x.1≤y.vars.length∧0≤x.2∧x.2≤cap+100000000000000∧A2i (y.vars.drop x.1) x.2=A2i y.vars n4) (fun x=>y.vars.length - x.1) (0,n4) ?_ ?_ ?_ ?_)
    ·exact⟨by simp,by omega,by unfold cap at *;omega,by first | rfl | simp⟩
    ·simp [sle,vle,A0k]
    ·exact (by simp [ble,A0h,deC,prC])
    rintro⟨i,m⟩ ⟨hi,hm0,hm1,heq⟩;simp only at hi hm0 hm1 heq;by_cases hlt:(i:Int) < (y.vars.length:Int)
    ·have hlt':i < y.vars.length:=by omega
     have hx:y.vars[i]? = some y.vars[i]:=List.getElem?_eq_getElem hlt';have hmem:y.vars[i]∈y.vars:=List.getElem_mem hlt';have dp:y.vars.drop i=y.vars[i]::y.vars.drop (i+1):=List.drop_eq_getElem_cons hlt';generalize y.vars[i]=x at *;rw [dp,A2i] at heq;refine sK fun K2 u2=>?_;by_cases hm:m≤2000
     ·rw [if_pos hm] at heq;refine sR2 hlt hm q5r ?_;refine AWp.tt rfl (AWp.kk (u2 _ _ ?_));clear u2 K2;refine sK fun K2 u2=>?_;refine AWp.bb ?_
      (refine lQ q5r fun K hK=>?_;simp -implicitDefEqProofs only [EV,Nat.reduceEqDiff,reduceCtorEq,TF9,G1u,E1b,])
      (have hq:=A3g (hyok.vars.2 x hmem);refine⟨(by first | (unfold InR;omega) | (simp only [InR,sm,lim] at *;omega)),by omega,_,A2b hx,rfl,?_⟩;refine ev ?_;refine⟨(by first | (unfold InR;omega) | (simp only [InR,sm,lim] at *;omega)),by unfold InR cap at *;omega,?_⟩)
      (apply hK;clear hK K;try simp only [A0c,A0e])
      refine u2 _ _ ?_;clear u2 K2
      (refine lQ q5r fun K hK=>?_;refine ev ?_)
      refine⟨by unfold InR;unfold lim at *;omega,?_⟩
      (apply hK;clear hK K;try simp only [A0c,])
      have hb:=A3g (hyok.vars.2 x hmem);exact⟨(i+1,m+1+((x.length / 50:Nat):Int)),⟨by simp only;omega,by simp only;omega,by simp only;unfold cap;omega,heq⟩,by simp only;omega,by simp [sle,vle,A0k],(by simp [ble,A0h,deC,prC])⟩
     ·rw [if_neg hm] at heq;refine sR2 hlt hm q5r ?_;refine AWp.ff rfl (AWp.xx ?_);simp only [TB];exact fin _ _ (by simp [sle,vle,A0k,heq]) (by simp [ble,A0h,deC,prC])
    ·refine kR1 hlt q5r fun K2 u2=>?_;refine AWp.ff rfl (AWp.xx ?_);simp only [TB];rw [List.drop_eq_nil_of_le (by omega),A2i] at heq;exact fin _ _ (by simp [sle,vle,A0k,heq]) (by simp [ble,A0h,deC,prC])
   refine sR q5r ?_;refine AWp.bb (AWp.loop (X:=Nat × Int) (fun x=>[(3,A0g x.2),(6,A0g x.1),(4,A0g j),(1,.box 1 0),(5,.box 5 0)]) (fun _=>[(1,.cells ((prC p).map .d)),(5,.cells ((deC y).map .d))])
    (fun x=>x.1≤y.sigs.length∧0≤x.2∧x.2≤cap+100000000000000∧A0u (y.sigs.drop x.1) x.2=A0u y.sigs n3) (fun x=>y.sigs.length - x.1) (0,n3) ?_ ?_ ?_ ?_)
   ·exact⟨by simp,by omega,by unfold cap at *;omega,by first | rfl | simp⟩
   ·simp [sle,vle,A0k]
   ·exact (by simp [ble,A0h,deC,prC])
   rintro⟨i,m⟩ ⟨hi,hm0,hm1,heq⟩;simp only at hi hm0 hm1 heq;by_cases hlt:(i:Int) < (y.sigs.length:Int)
   ·have hlt':i < y.sigs.length:=by omega
    have hx:y.sigs[i]? = some y.sigs[i]:=List.getElem?_eq_getElem hlt';have hmem:y.sigs[i]∈y.sigs:=List.getElem_mem hlt';have dp:y.sigs.drop i=y.sigs[i]::y.sigs.drop (i+1):=List.drop_eq_getElem_cons hlt';generalize y.sigs[i]=x at *;rw [dp,A0u] at heq;refine sK fun K2 u2=>?_;by_cases hm:m≤2000
    ·rw [if_pos hm] at heq;refine sR2 hlt hm q5r ?_;refine AWp.tt rfl (AWp.kk (u2 _ _ ?_));clear u2 K2;refine sK fun K2 u2=>?_;refine AWp.bb ?_
     (refine lQ q5r fun K hK=>?_;refine ev ?_)
     (refine⟨by omega,siC x,A0n hx,rfl,?_⟩;refine ev ?_;refine⟨A0g (x.count m),.inl ⟨_,rfl,C2z x m hm0 (by unfold cap;omega),rfl⟩,?_⟩;refine ev ?_)
     (apply hK;clear hK K;try simp only [A0c,A0e])
     refine u2 _ _ ?_;clear u2 K2
     (refine lQ q5r fun K hK=>?_;refine ev ?_)
     refine⟨by unfold InR;unfold lim at *;omega,?_⟩
     (apply hK;clear hK K;try simp only [A0c,])
     have hb:=Sig.count_bd x m (hyok.sigs.2 x hmem);exact⟨(i+1,x.count m),⟨by simp only;omega,by simp only;omega,by simp only;unfold cap;omega,heq⟩,by simp only;omega,by simp [sle,vle,A0k],(by simp [ble,A0h,deC,prC])⟩
    ·rw [if_neg hm] at heq;refine sR2 hlt hm q5r ?_;refine AWp.ff rfl (AWp.xx ?_);simp only [TB];exact fin _ _ (by simp [sle,vle,A0k,heq]) (by simp [ble,A0h,deC,prC])
   ·refine kR1 hlt q5r fun K2 u2=>?_;refine AWp.ff rfl (AWp.xx ?_);simp only [TB];rw [List.drop_eq_nil_of_le (by omega),A0u] at heq;exact fin _ _ (by simp [sle,vle,A0k,heq]) (by simp [ble,A0h,deC,prC])
  ·rw [if_neg hm] at heq;refine sR2 hlt hm q5r ?_;refine AWp.ff rfl (AWp.xx ?_);simp only [TB];exact fin _ _ (by simp [sle,vle,A0k,heq]) sB
 ·refine kR1 hlt q5r fun K2 u2=>?_;refine AWp.ff rfl (AWp.xx ?_);simp only [TB];rw [List.drop_eq_nil_of_le (by omega),A2n] at heq;exact fin _ _ (by simp [sle,vle,A0k,heq]) sB
theorem Prog.count_bd (p:Prog)(h:p.Ok):0≤p.count:=by
 have h1:=(Ex.count_bd p.main 0 h.main).1;have h2:∀ (l:List Decl) (n:Int),(∀ d,d∈l→d.Ok)→n≤A2n l n:=by
  intro l
  induction l with
  | nil=>intro n _;simp [A2n]
  | cons d l ih =>
   intro n hl;simp only [A2n];split
   ·have h3:=Decl.count_bd d n (hl d (by simp));have h4:=ih (d.count n) (fun u hu=>hl u (by simp [hu]));omega
   ·omega
 have h3:=h2 p.decls (p.main.count 0) h.decls.2;unfold Prog.count;omega
theorem F5e (p:Prog):A0a prog 15 [prV p] (A0m (decide (p.count≤600))):=by refine cB func15 ?_;refine sR [0,1,2] ?_;refine sC (E4p p) [0,1,2] ?_;exact aR
def Decl.isT (d:Decl)(nm:Str):Bool:=(decide (d.kind=1) || decide (d.kind=2)) && decide (d.name=nm)
def B4b (nm:Str):List Decl→Nat→Int
 | [],_=>-1
 | d::ds,i=>if d.isT nm=true then i else B4b nm ds (i+1)
abbrev q6r:List Nat:=[0,1,2,4,5,10,38]
theorem B8c (p:Prog)(nm:Str):A0a prog 92 [prV p,A2d nm] (A0g (B4b nm p.decls 0)):=by
 refine A1p.bd (A1q.of func92 rfl (by decide)) fun hbd=>?_;have hok:=C0q hbd.1;have hl:=hok.decls.1;refine cB func92 ?_;refine sR q6r ?_;refine sK fun K1 u1=>?_;have fin:∀ sl bx,B4b nm p.decls 0 = -1→K1 sl bx:=by intro sl bx h1;refine u1 _ _ (AWp.ww (sl':=[]) (bx':=[]) trivial trivial ?_);clear u1 K1;refine sR q6r ?_;rw [h1];exact aR
 refine sR q6r ?_;refine AWp.bb (AWp.loop (X:=Nat) (fun x=>[(5,A0g x),(1,A2d nm),(2,.box 2 0)]) (fun _=>[(2,.cells ((prC p).map .d))])
  (fun x=>x≤p.decls.length∧B4b nm (p.decls.drop x) x=B4b nm p.decls 0) (fun x=>p.decls.length - x) 0 ?_ ?_ ?_ ?_)
 ·exact⟨by simp,rfl⟩
 ·exact sS
 ·exact (by simp [ble,A0h,prC])
 rintro j ⟨hj,heq⟩;by_cases hlt:(j:Int) < (p.decls.length:Int)
 ·have hlt':j < p.decls.length:=by omega
  have hy:p.decls[j]? = some p.decls[j]:=List.getElem?_eq_getElem hlt';have dp:p.decls.drop j=p.decls[j]::p.decls.drop (j+1):=List.drop_eq_getElem_cons hlt';generalize p.decls[j]=y at *;rw [dp,B4b] at heq;refine kR1 hlt q6r fun K2 u2=>?_;refine AWp.tt rfl (AWp.kk (u2 _ _ ?_));clear u2 K2;refine sK fun K2 u2=>?_;refine AWp.bb ?_;by_cases hk1:y.kind=1
  ·by_cases hn:y.name=nm
   ·(refine sQ q6r fun K hK=>?_;simp -implicitDefEqProofs only [EV,Nat.reduceEqDiff,reduceCtorEq,TF3,F2w,B9o,E1b,])
    repeat (refine⟨by omega,deC y,A0t hy,rfl,?_⟩;refine ev2 hk1 hn ?_)
    (apply hK;clear hK K)
    have ht:y.isT nm=true:=by simp [Decl.isT,hk1,hn]
    rw [if_pos ht] at heq;refine AWp.tt rfl ?_;refine sR q6r ?_;rw [← heq];exact aR
   ·(refine sQ q6r fun K hK=>?_;simp -implicitDefEqProofs only [EV,Nat.reduceEqDiff,reduceCtorEq,TF3,F2w,B9o,E1b,])
    repeat (refine⟨by omega,deC y,A0t hy,rfl,?_⟩;refine ev2 hk1 hn ?_)
    (apply hK;clear hK K)
    have ht:¬ y.isT nm=true:=by simp [Decl.isT,hk1,hn]
    rw [if_neg ht] at heq;refine AWp.ff rfl (AWp.kk ?_);simp only [A0c,A0e];refine u2 _ _ ?_;clear u2 K2
    (refine lQ q6r fun K hK=>?_;refine ev ?_)
    refine⟨by unfold InR;unfold lim at *;omega,?_⟩
    (apply hK;clear hK K;try simp only [A0c,])
    exact⟨j+1,⟨by omega,heq⟩,by omega,by simp [sle,vle,A0k],(by simp [ble,A0h,prC])⟩
  ·by_cases hk2:y.kind=2
   ·by_cases hn:y.name=nm
    ·(refine sQ q6r fun K hK=>?_;simp -implicitDefEqProofs only [EV,Nat.reduceEqDiff,reduceCtorEq,TF3,F2w,B9o,E1b,])
     repeat (refine⟨by omega,deC y,A0t hy,rfl,?_⟩;refine ev2 hk2 hn ?_)
     (apply hK;clear hK K)
     have ht:y.isT nm=true:=by simp [Decl.isT,hk2,hn]
     rw [if_pos ht] at heq;refine AWp.tt rfl ?_;refine sR q6r ?_;rw [← heq];exact aR
    ·(refine sQ q6r fun K hK=>?_;simp -implicitDefEqProofs only [EV,Nat.reduceEqDiff,reduceCtorEq,TF3,F2w,B9o,E1b,])
     repeat (refine⟨by omega,deC y,A0t hy,rfl,?_⟩;refine ev2 hk2 hn ?_)
     (apply hK;clear hK K)
     have ht:¬ y.isT nm=true:=by simp [Decl.isT,hk2,hn]
     rw [if_neg ht] at heq;refine AWp.ff rfl (AWp.kk ?_);simp only [A0c,A0e];refine u2 _ _ ?_;clear u2 K2
     (refine lQ q6r fun K hK=>?_;refine ev ?_)
     refine⟨by unfold InR;unfold lim at *;omega,?_⟩
     (apply hK;clear hK K;try simp only [A0c,])
     exact⟨j+1,⟨by omega,heq⟩,by omega,by simp [sle,vle,A0k],(by simp [ble,A0h,prC])⟩
   ·(refine sQ q6r fun K hK=>?_;simp -implicitDefEqProofs only [EV,Nat.reduceEqDiff,reduceCtorEq,TF3,F2w,B9o,E1b,])
    repeat (refine⟨by omega,deC y,A0t hy,rfl,?_⟩;refine ev2 hk1 hk2 ?_)
    (apply hK;clear hK K)
    have ht:¬ y.isT nm=true:=by simp [Decl.isT,hk1,hk2]
    rw [if_neg ht] at heq;refine AWp.ff rfl (AWp.kk ?_);simp only [A0c,A0e];refine u2 _ _ ?_;clear u2 K2
    (refine lQ q6r fun K hK=>?_;refine ev ?_)
    refine⟨by unfold InR;unfold lim at *;omega,?_⟩
    (apply hK;clear hK K;try simp only [A0c,])
    exact⟨j+1,⟨by omega,heq⟩,by omega,by simp [sle,vle,A0k],(by simp [ble,A0h,prC])⟩
 ·refine kR1 hlt q6r fun K2 u2=>?_;refine AWp.ff rfl (AWp.xx ?_);simp only [TB];rw [List.drop_eq_nil_of_le (by omega),B4b] at heq;exact fin _ _ heq.symm
def A1z (p:Prog)(nm:Str):Int:=match p.decls.find? (fun d=>d.isT nm) with
 | some d=>d.kind
 | none=>0
theorem A6r (nm:Str):∀ (l:List Decl)(i:Nat),(B4b nm l i = -1∧l.find? (fun d=>d.isT nm)=none)∨∃ k d,l[k]? = some d∧B4b nm l i=((i+k:Nat):Int)∧l.find? (fun d=>d.isT nm)=some d
 | [],i=>by simp [B4b]
 | d::ds,i=>by
  simp only [B4b,List.find?_cons];split
  ·rename_i h;exact .inr ⟨0,d,rfl,rfl,by simp [h]⟩
  ·rename_i h;rcases A6r nm ds (i+1) with ⟨h1,h2⟩ | ⟨k,d',h1,h2,h3⟩
   ·exact .inl ⟨h1,by simp [h,h2]⟩
   ·exact .inr ⟨k+1,d',by simpa using h1,by rw [h2];congr 1;omega,by simp [h,h3]⟩
abbrev q7r:List Nat:=[0,1,2,4,5,10]
theorem B7e (p:Prog)(nm:Str):A0a prog 87 [prV p,A2d nm] (A0g (A1z p nm)):=by
 refine A1p.bd (A1q.of func87 rfl (by decide)) fun hbd=>?_;have hok:=C0q hbd.1;have hl:=hok.decls.1;refine cB func87 ?_;refine sR q7r ?_;refine sC (B8c p nm) q7r ?_;refine sK fun K1 u1=>?_;rcases A6r nm p.decls 0 with ⟨h1,h2⟩ | ⟨k,d,h1,h2,h3⟩
 ·rw [h1];have hk:A1z p nm=0:=by simp [A1z,h2]
  refine sR q7r ?_;refine AWp.tt rfl ?_;refine sR q7r ?_;rw [hk];exact aR
 ·rw [h2];have hk:A1z p nm=d.kind:=by simp [A1z,h3]
  have hge:¬ ((0+k:Nat):Int) < 0:=by omega
  have hkl:((0+k:Nat):Int).toNat=k:=by omega
  refine sR q7r ?_;refine AWp.ff rfl (AWp.kk (u1 _ _ ?_));clear u1 K1
  (refine sQ q7r fun K hK=>?_;refine ev ?_)
  refine⟨by omega,deC d,A0t h1,rfl,?_⟩;refine ev ?_
  (apply hK;clear hK K)
  rw [hk];exact aR
abbrev q8r:List Nat:=[0,1,4,5,9,17]
theorem E4b (l:List Str)(s:Str):A0a prog 172 [A1m l,A2d s] (A0m (decide (s∈l))):=by
 refine A1p.bd (A1q.of func172 rfl (by decide)) fun hbd=>?_;have hl:=(C1a hbd.1).1;refine cB func172 ?_;refine sR q8r ?_;refine sK fun K1 u1=>?_;have fin:∀ sl bx,¬ s∈l→K1 sl bx:=by intro sl bx h1;refine u1 _ _ (AWp.ww (sl':=[]) (bx':=[]) trivial trivial ?_);clear u1 K1;refine sR q8r ?_;rw [decide_eq_false h1];exact aR
 refine sR q8r ?_;refine AWp.bb (AWp.loop (X:=Nat) (fun x=>[(5,A0g x),(0,A1m l),(1,A2d s)]) (fun _=>[])
  (fun x=>x≤l.length∧(s∈l↔s∈l.drop x)) (fun x=>l.length - x) 0 ?_ ?_ ?_ ?_)
 ·exact⟨by simp,by simp⟩
 ·exact sS
 ·exact sB
 rintro j ⟨hj,heq⟩;by_cases hlt:(j:Int) < (l.length:Int)
 ·have hlt':j < l.length:=by omega
  have hy:l[j]? = some l[j]:=List.getElem?_eq_getElem hlt';have hmem:l[j]∈l:=List.getElem_mem hlt';have dp:l.drop j=l[j]::l.drop (j+1):=List.drop_eq_getElem_cons hlt';generalize l[j]=y at *;rw [dp,List.mem_cons] at heq;refine kR1 hlt q8r fun K2 u2=>?_;refine AWp.tt rfl (AWp.kk (u2 _ _ ?_));clear u2 K2;refine sK fun K2 u2=>?_;refine AWp.bb ?_;by_cases hn:y=s
  ·(refine sQ q8r fun K hK=>?_;refine ev ?_)
   refine⟨by omega,_,A2b hy,rfl,?_⟩;refine ev1 hn ?_
   (apply hK;clear hK K)
   refine AWp.tt rfl ?_;refine sR q8r ?_;rw [decide_eq_true (heq.2 (.inl hn.symm))];exact aR
  ·(refine sQ q8r fun K hK=>?_;refine ev ?_)
   refine⟨by omega,_,A2b hy,rfl,?_⟩;refine ev1 hn ?_
   (apply hK;clear hK K)
   refine AWp.ff rfl (AWp.kk ?_);simp only [A0c,A0e];refine u2 _ _ ?_;clear u2 K2
   (refine lQ q8r fun K hK=>?_;refine ev ?_)
   refine⟨by unfold InR;unfold lim at *;omega,?_⟩
   (apply hK;clear hK K;try simp only [A0c,])
   exact⟨j+1,⟨by omega,by rw [heq];exact⟨fun h=>h.resolve_left (fun h=>hn h.symm),.inr⟩⟩,by omega,by simp [sle,vle,A0k],sB⟩
 ·refine kR1 hlt q8r fun K2 u2=>?_;refine AWp.ff rfl (AWp.xx ?_);simp only [TB];rw [List.drop_eq_nil_of_le (by omega)] at heq;exact fin _ _ (by rw [heq];simp)
def A2r:Str→Str→Int
 | [],[]=>0
 | [],_::_=>-1
 | _::_,[]=>1
 | x::xs,y::ys=>if x < y then -1 else if y < x then 1 else A2r xs ys
abbrev q9r:List Nat:=[0,1,4,5,15,24,31,36,41]
theorem A9f (a b:Str):A0a prog 86 [A2d a,A2d b] (A0g (A2r a b)):=by
 refine A1p.bd (A1q.of func86 rfl (by decide)) fun hbd=>?_;have hla:=B0w hbd.1;have hlb:=B0w hbd.2.1;refine cB func86 ?_;refine sR q9r ?_;refine sK fun K1 u1=>?_;have fin:∀ sl bx,sle sl [(0,A2d a),(1,A2d b)]→(A2r a b=if (a.length:Int) < b.length then -1 else if (b.length:Int) < a.length then 1 else 0)→K1 sl bx:=by
  intro sl bx hsl hc;refine u1 _ _ (AWp.ww (bx':=[]) hsl trivial ?_);clear u1 K1;refine sK fun K1 u1=>?_;by_cases h1:(a.length:Int) < b.length
  ·refine sR1 h1 q9r ?_;refine AWp.tt rfl ?_;refine sR q9r ?_;rw [hc,if_pos h1];exact aR
  ·refine sR1 h1 q9r ?_;refine AWp.ff rfl (AWp.kk (u1 _ _ ?_));clear u1 K1;refine sK fun K1 u1=>?_;by_cases h2:(b.length:Int) < a.length
   ·refine sR1 h2 q9r ?_;refine AWp.tt rfl ?_;refine sR q9r ?_;rw [hc,if_neg h1,if_pos h2];exact aR
   ·refine sR1 h2 q9r ?_;refine AWp.ff rfl (AWp.kk (u1 _ _ ?_));clear u1 K1;refine sR q9r ?_;rw [hc,if_neg h1,if_neg h2];exact aR
 refine sR q9r ?_;refine AWp.bb (AWp.loop (X:=Nat) (fun x=>[(5,A0g x),(0,A2d a),(1,A2d b)]) (fun _=>[])
  (fun x=>x≤a.length∧x≤b.length∧A2r (a.drop x) (b.drop x)=A2r a b) (fun x=>a.length - x) 0 ?_ ?_ ?_ ?_)
 ·exact⟨by simp,by simp,rfl⟩
 ·exact sS
 ·exact sB
 rintro j ⟨hj,hj2,heq⟩;by_cases hlt:(j:Int) < (a.length:Int)
 ·by_cases hlt2:(j:Int) < (b.length:Int)
  ·have hlt':j < a.length:=by omega
   have hlt2':j < b.length:=by omega
   have hx:a[j]? = some a[j]:=List.getElem?_eq_getElem hlt';have hy:b[j]? = some b[j]:=List.getElem?_eq_getElem hlt2';rw [List.drop_eq_getElem_cons hlt',List.drop_eq_getElem_cons hlt2',A2r] at heq;generalize a[j]=x at *;generalize b[j]=y at *;refine kR2 hlt hlt2 q9r fun K2 u2=>?_;refine AWp.tt rfl (AWp.kk (u2 _ _ ?_));clear u2 K2;refine sK fun K2 u2=>?_;refine AWp.bb ?_;refine sK fun K3 u3=>?_
   (refine sG q9r [] 6 [] fun K hK=>?_;refine ev ?_)
   refine⟨by omega,x,hx,by omega,y,hy,?_⟩
   (apply hK;clear hK K)
   have e1:∀ u v:UInt8,(u.toNat:Int) < v.toNat↔u < v:=fun u v=>by rw [UInt8.lt_iff_toNat_lt];omega
   simp only [e1];by_cases hxy:x < y
   ·rw [if_pos hxy] at heq;refine AWp.tt (by simp [opnd,A0k,hxy]) ?_;refine sR q9r ?_;rw [← heq];exact aR
   ·rw [if_neg hxy] at heq;refine AWp.ff (by simp [opnd,A0k,hxy]) (AWp.kk ?_);simp only [A0c,];refine u3 _ _ ?_;clear u3 K3
    (refine sG q9r [] 6 [] fun K hK=>?_;refine ev ?_)
    refine⟨by omega,x,hx,by omega,y,hy,?_⟩
    (apply hK;clear hK K)
    simp only [e1];by_cases hyx:y < x
    ·rw [if_pos hyx] at heq;refine AWp.tt (by simp [opnd,A0k,hyx]) ?_;refine sR q9r ?_;rw [← heq];exact aR
    ·rw [if_neg hyx] at heq;refine AWp.ff (by simp [opnd,A0k,hyx]) (AWp.kk ?_);simp only [A0c,A0e];refine u2 _ _ ?_;clear u2 K2
     (refine lQ q9r fun K hK=>?_;refine ev ?_)
     refine⟨by unfold InR;unfold lim at *;omega,?_⟩
     (apply hK;clear hK K;try simp only [A0c,])
     exact⟨j+1,⟨by omega,by omega,heq⟩,by omega,by simp [sle,vle,A0k],sB⟩
  ·refine kR2 hlt hlt2 q9r fun K2 u2=>?_;refine AWp.ff rfl (AWp.xx ?_);simp only [TB];have hd:b.drop j=[]:=List.drop_eq_nil_of_le (by omega);rw [hd,List.drop_eq_getElem_cons (show j < a.length by omega),A2r] at heq;exact fin _ _ sS (by rw [← heq,if_neg (by omega),if_pos (by omega)])
 ·refine kR1 hlt q9r fun K2 u2=>?_;refine AWp.ff rfl (AWp.xx ?_);simp only [TB];have hd:a.drop j=[]:=List.drop_eq_nil_of_le (by omega);rw [hd] at heq;refine fin _ _ sS ?_;rw [← heq];by_cases hb:j < b.length
  ·rw [List.drop_eq_getElem_cons hb,A2r,if_pos (by omega)]
  ·rw [List.drop_eq_nil_of_le (by omega),A2r,if_neg (by omega),if_neg (by omega)]
def ins (s:Str):List Str→List Str
 | []=>[s]
 | x::xs=>if A2r s x < 0 then s::x::xs else x::ins s xs
def E6m (l:List Str)(s:Str):List Str:=if s∈l then l else ins s l
theorem D5q (s:Str):∀ l,(ins s l).length=l.length+1
 | []=>rfl
 | x::xs=>by simp only [ins];split <;> simp [D5q s xs]
abbrev D0r:List Nat:=[0,1,4,5,6,7,10,15,28,41]
theorem G2c (l:List Str)(s:Str)(hlen:l.length≤1000000):A0a prog 274 [A1m l,A2d s] (A1m (E6m l s)):=by
 refine cB func274 ?_;refine sR D0r ?_;refine kC (E4b l s) D0r fun K1 u1=>?_;by_cases hin:s∈l
 ·refine AWp.tt (by simp [opnd,A0k,hin]) ?_;refine sR D0r ?_;rw [E6m,if_pos hin];exact aR
 refine AWp.ff (by simp [opnd,A0k,hin]) (AWp.kk (u1 _ _ ?_));clear u1 K1;refine sR D0r ?_;refine sR D0r ?_;refine AWp.pp 5 1 5 rfl ?_;refine sK fun K1 u1=>?_;have fin:∀ sl bx (b:Bool) r,sle sl [(1,A2d s),(5,.acc 5),(6,A0m b)]→ble bx [(5,.rows 1 (A2x r))]→r.length≤l.length+1→(if b then r else r++[s])=ins s l→K1 sl bx:=by
  intro sl bx b r h1 h2 hr hb;refine u1 _ _ (AWp.ww h1 h2 ?_);clear u1 K1 h1 h2;refine kR D0r fun K1 u1=>?_;cases b with
  | true =>refine AWp.ff rfl (AWp.kk (u1 _ _ ?_));clear u1 K1;refine sR D0r ?_;simp only [if_true] at hb;rw [E6m,if_neg hin,← hb];exact aR
  | false =>
   refine AWp.tt rfl ?_
   (refine lQ D0r fun K hK=>?_;refine ev ?_)
   refine⟨by simp,by unfold lim;omega,?_⟩
   (apply hK;clear hK K;try simp only [A0c,])
   refine u1 _ _ ?_;clear u1 K1;refine sR D0r ?_;have e:A2x r++[[D.str s]]=A2x (r++[s]):=by simp [A2x]
   simp only [Bool.false_eq_true,if_false] at hb;rw [E6m,if_neg hin,← hb,e];exact aR
 refine sR D0r ?_;refine AWp.bb (AWp.loop (X:=Nat × Bool × List Str) (fun x=>[(7,A0g x.1),(0,A1m l),(1,A2d s),(5,.acc 5),(6,A0m x.2.1)]) (fun x=>[(5,.rows 1 (A2x x.2.2))])
  (fun x=>x.1≤l.length∧x.2.2++(if x.2.1 then l.drop x.1 else ins s (l.drop x.1))=ins s l) (fun x=>l.length - x.1) (0,false,[]) ?_ ?_ ?_ ?_)
 ·exact⟨by simp,by simp⟩
 ·exact sS
 ·simp [ble,A0h,A2x]
 rintro⟨j,b,r⟩ ⟨hj,heq⟩;simp only at hj heq;have hrl:=congrArg List.length heq;simp only [List.length_append,D5q] at hrl;have hr0:r.length=if b then j+1 else j:=by
  cases b
  ·simp only [Bool.false_eq_true,if_false,D5q,List.length_drop] at hrl ⊢;omega
  ·simp only [if_true,List.length_drop] at hrl ⊢;omega
 clear hrl;by_cases hlt:(j:Int) < (l.length:Int)
 ·have hlt':j < l.length:=by omega
  have hy:l[j]? = some l[j]:=List.getElem?_eq_getElem hlt';have dp:l.drop j=l[j]::l.drop (j+1):=List.drop_eq_getElem_cons hlt';generalize l[j]=y at *;rw [dp] at heq;refine kR1 hlt D0r fun K2 u2=>?_;refine AWp.tt rfl (AWp.kk (u2 _ _ ?_));clear u2 K2;refine sK fun K2 u2=>?_;refine AWp.bb ?_;refine sK fun K3 u3=>?_;have fin2:∀ sl bx (b':Bool) r',sle sl [(7,A0g j),(0,A1m l),(1,A2d s),(5,.acc 5),(6,A0m b')]→ble bx [(5,.rows 1 (A2x r'))]→r'.length≤l.length→r'++y::(if b' then l.drop (j+1) else ins s (l.drop (j+1)))=ins s l→K3 sl bx:=by
   intro sl bx b' r' h1 h2 hr' h3;refine u3 _ _ (AWp.ww h1 h2 ?_);clear u3 K3 h1 h2
   (refine lQ D0r fun K hK=>?_;refine ev ?_)
   refine⟨by omega,_,A2b hy,rfl,?_⟩;refine ev ?_;refine⟨by simp,by unfold lim;omega,?_⟩
   (apply hK;clear hK K;try simp only [A0c,A0e])
   refine u2 _ _ ?_;clear u2 K2
   (refine lQ D0r fun K hK=>?_;refine ev ?_)
   refine⟨by unfold InR;omega,?_⟩
   (apply hK;clear hK K;try simp only [A0c,])
   exact⟨(j+1,b',r'++[y]),⟨by simp only;omega,by simpa using h3⟩,by simp only;omega,by simp [sle,vle,A0k],by simp [ble,A0h,A2x]⟩
  clear u3 u2;cases b with
  | true =>simp only [if_true] at heq hr0;refine sR D0r ?_;refine AWp.ff rfl (AWp.kk ?_);simp only [A0c,];exact fin2 _ _ true r sS sB (by omega) heq
  | false =>
   simp only [Bool.false_eq_true,if_false,ins] at heq hr0
   (refine sQ D0r fun K hK=>?_;refine ev ?_)
   refine⟨by omega,_,A2b hy,rfl,?_⟩;refine ev ?_;refine⟨A0g (A2r s y),.inl ⟨_,rfl,A9f s y,rfl⟩,?_⟩;refine ev ?_
   (apply hK;clear hK K)
   by_cases hc:A2r s y < 0
   ·rw [if_pos hc] at heq;refine AWp.tt (by simp [opnd,A0k,hc]) ?_;have hr2:r.length≤l.length:=by omega
    have e:A2x r++[[D.str s]]=A2x (r++[s]):=by simp [A2x]
    (refine sQ D0r fun K hK=>?_;refine ev ?_)
    refine⟨by simp,by unfold lim;omega,?_⟩;rw [e]
    (apply hK;clear hK K)
    (refine lV D0r fun K z=>?_;apply z;clear z K;try simp only [A0c,])
    exact fin2 _ _ true (r++[s]) sS sB (by simp only [List.length_append,List.length_cons,List.length_nil];omega) (by simpa using heq)
   ·rw [if_neg hc] at heq;refine AWp.ff (by simp [opnd,A0k,hc]) (AWp.kk ?_);simp only [A0c,];exact fin2 _ _ false r sS sB (by omega) (by simpa using heq)
 ·refine kR1 hlt D0r fun K2 u2=>?_;refine AWp.ff rfl (AWp.xx ?_);simp only [TB];rw [List.drop_eq_nil_of_le (by omega)] at heq;exact fin _ _ b r sS sB (by cases b <;> simp only [if_true,Bool.false_eq_true,if_false] at hr0 <;> omega) (by rw [← heq];cases b <;> simp [ins])
end Go.Abs
