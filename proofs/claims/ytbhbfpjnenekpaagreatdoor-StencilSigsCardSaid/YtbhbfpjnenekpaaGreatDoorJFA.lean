/- several texts in one -/
import Derived.Test.YtbhbfpjnenekpaaGreatDoorJEnc
import Derived.Test.YtbhbfpjnenekpaaGreatDoorJEV
import Derived.Test.YtbhbfpjnenekpaaGreatDoorJTypes
namespace Go.Abs
set_option maxRecDepth 100000
set_option maxHeartbeats 1000000
set_option linter.unusedSimpArgs false
set_option linter.unusedVariables false
open Go Go.Proofs Tryz
mutual
def Ty.count:Ty→Int→Int
 | .mk n a _,k=>Ty.countL a (k+1+((n.length / 50:Nat):Int))
def Ty.countL:List Ty→Int→Int
 | [],k=>k
 | t::ts,k=>if k≤2000 then Ty.countL ts (t.count k) else k
end
theorem Ty.count_eq (t:Ty)(k:Int):t.count k=Ty.countL t.args (k+1+((t.name.length / 50:Nat):Int)):=by cases t;rfl
def cap:Int:=4611686018427387904
mutual
theorem Ty.count_bd:∀ (t:Ty)(k:Int),t.Ok→k≤t.count k∧t.count k≤max k 2000+2814749767107
 | .mk n a p,k,h=>by
  have hn:n.length≤lim:=h.name
  have:=Ty.countL_bd a (k+1+((n.length / 50:Nat):Int)) (fun t ht=>h.arg t ht)
  simp only [Ty.count]
  unfold lim at hn
  omega
theorem Ty.countL_bd:∀ (l:List Ty)(k:Int),(∀ t,t∈l→t.Ok)→k≤Ty.countL l k∧Ty.countL l k≤max k (2000+2814749767107)
 | [],k,_=>by simp only [Ty.countL];omega
 | t::ts,k,h=>by
  simp only [Ty.countL]
  split
  ·have h1:=Ty.count_bd t k (h t (by simp))
   have h2:=Ty.countL_bd ts (t.count k) (fun u hu=>h u (by simp [hu]))
   omega
  ·omega
end
abbrev q1r:List Nat:=[0,1,2,4,5,21]
theorem ok_Count04:∀ (t:Ty)(n:Int),0≤n→n≤cap→CallOK prog 38 [tyV t,intV n] (intV (t.count n)):=by
 intro t
 induction t using Ty.induct with
 | h t ih =>
 intro n h0 h1
 refine CallB.bd (Enters.of func38 rfl (by decide)) fun hbd=>?_
 have hok:=ty_ok hbd.1
 have hname:=hok.name
 have hlen:=hok.len
 have hq:t.name.length / 50≤2814749767106:=by unfold lim at hname;omega
 refine cB func38 ?_
 refine sR q1r ?_
 (refine sQ q1r fun K hK=>?_;refine ev ?_)
 refine⟨by unfold InR cap at *;omega,(by first | (unfold InR;omega) | (simp only [InR,sm,lim] at *;omega)),by unfold InR cap at *;omega,?_⟩
 (apply hK;clear hK K)
 refine kR q1r fun K1 u1=>?_
 refine AWp.block (AWp.loop (X:=Nat × Int) (fun x=>[(1,intV x.2),(2,.box 2 0),(5,intV x.1)]) (fun _=>[(2,.cells [.d (.str t.name),.d (.slice (tyR t.args)),.d (.int .i64 t.pos)])])
  (fun x=>x.1≤t.args.length∧0≤x.2∧x.2≤cap+2814749769108∧Ty.countL (t.args.drop x.1) x.2=t.count n) (fun x=>t.args.length - x.1) (0,n+1+((t.name.length / 50:Nat):Int)) ?_ ?_ ?_ ?_)
 ·exact⟨by simp,by omega,by unfold cap at *;omega,by rw [Ty.count_eq];rfl⟩
 ·simp [sle,vle,sget]
 ·simp [ble,bget]
 rintro⟨i,m⟩ ⟨hi,hm0,hm1,heq⟩
 simp only at hi hm0 hm1 heq
 have fin:∀ z:Int,z=t.count n→K1 [(0,.undef),(1,intV z),(2,.box 2 0),(4,.undef),(5,intV i),(21,boolV false)] [(2,.cells [.d (.str t.name),.d (.slice (tyR t.args)),.d (.int .i64 t.pos)])]:=by
  rintro z rfl
  refine u1 _ _ ?_
  refine sR q1r ?_
  exact aR
 by_cases hlt:(i:Int) < (t.args.length:Int)
 ·have hlt':i < t.args.length:=by omega
  have hx:t.args[i]? = some t.args[i]:=List.getElem?_eq_getElem hlt'
  have hmem:t.args[i]∈t.args:=List.getElem_mem hlt'
  have dp:t.args.drop i=t.args[i]::t.args.drop (i+1):=List.drop_eq_getElem_cons hlt'
  generalize t.args[i]=x at *
  rw [dp,Ty.countL] at heq
  refine sK fun K2 u2=>?_
  by_cases hm:m≤2000
  ·rw [if_pos hm] at heq
   refine sR2 hlt hm q1r ?_
   refine AWp.condT rfl (AWp.skip (u2 _ _ ?_))
   clear u2 K2
   refine sK fun K2 u2=>?_
   refine AWp.block ?_
   (refine lQ q1r fun K hK=>?_;simp -implicitDefEqProofs only [EV,forall_const,implies_true,Nat.reduceAdd,Nat.reduceEqDiff,Nat.reduceBEq,Nat.reduceLeDiff,Nat.reduceSub,Nat.reduceMul,Int.reduceEq,Int.reduceLT,Int.reduceLE,Int.reduceSub,Int.reduceAdd,Int.reduceToNat,reduceCtorEq,Int.reduceNeg,TF3,TF4,TF9,TF23,TF25,hlt,tyC])
   refine⟨by omega,tyC x,tyR_get hx,rfl,?_⟩
   simp -implicitDefEqProofs only [EV,forall_const,implies_true,Nat.reduceAdd,Nat.reduceEqDiff,Nat.reduceBEq,Nat.reduceLeDiff,Nat.reduceSub,Nat.reduceMul,Int.reduceEq,Int.reduceLT,Int.reduceLE,Int.reduceSub,Int.reduceAdd,Int.reduceToNat,reduceCtorEq,Int.reduceNeg,TF3,TF4,TF9,TF23,TF25,hlt,tyC]
   refine⟨intV (x.count m),.inl ⟨_,rfl,ih x hmem m hm0 (by unfold cap;omega),rfl⟩,?_⟩
   simp -implicitDefEqProofs only [EV,forall_const,implies_true,Nat.reduceAdd,Nat.reduceEqDiff,Nat.reduceBEq,Nat.reduceLeDiff,Nat.reduceSub,Nat.reduceMul,Int.reduceEq,Int.reduceLT,Int.reduceLE,Int.reduceSub,Int.reduceAdd,Int.reduceToNat,reduceCtorEq,Int.reduceNeg,TF3,TF4,TF9,TF23,TF25,hlt,tyC]
   (apply hK;clear hK K;try simp only [thenA,blockA,if_true])
   refine u2 _ _ ?_
   clear u2 K2
   (refine lQ q1r fun K hK=>?_;refine ev ?_)
   refine⟨by unfold InR;unfold lim at hlen;omega,?_⟩
   (apply hK;clear hK K;try simp only [thenA,blockA,if_true])
   have hb:=Ty.count_bd x m (hok.arg x hmem)
   exact⟨(i+1,x.count m),⟨by simp only;omega,by simp only;omega,by simp only;unfold cap;omega,heq⟩,by simp only;omega,by simp [sle,vle,sget],by simp [ble,bget]⟩
  ·rw [if_neg hm] at heq
   refine sR2 hlt hm q1r ?_
   refine AWp.condF rfl (AWp.exit ?_)
   simp only [thenA,blockA,if_true]
   exact fin m heq
 ·refine kR1 hlt q1r fun K2 u2=>?_
  refine AWp.condF rfl (AWp.exit ?_)
  simp only [thenA,blockA,if_true]
  rw [List.drop_eq_nil_of_le (by omega),Ty.countL] at heq
  exact fin m heq
theorem div50_le {n:Nat} (h:n≤lim):n / 50≤2814749767106:=by unfold lim at h;omega
mutual
def Ex.count:Ex→Int→Int
 | .mk _ nm t ta ks _,n=>Ex.countL ks (Ty.countL ta (t.count (n+((nm.length / 50:Nat):Int))))
def Ex.countL:List Ex→Int→Int
 | [],n=>n
 | e::es,n=>if n≤2000 then Ex.countL es (e.count n) else n
end
theorem Ex.count_eq (e:Ex)(n:Int):e.count n=Ex.countL e.kids (Ty.countL e.targs (e.type.count (n+((e.name.length / 50:Nat):Int)))):=by cases e;rfl
mutual
theorem Ex.count_bd:∀ (e:Ex)(n:Int),e.Ok→n≤e.count n∧e.count n≤max n 2000+6000000000000
 | .mk k nm t ta ks p,n,h=>by
  have h1:=div50_le h.name
  have h2:=Ty.count_bd t (n+((nm.length / 50:Nat):Int)) h.type
  have h3:=Ty.countL_bd ta (t.count (n+((nm.length / 50:Nat):Int))) h.targs.2
  have h4:=Ex.countL_bd ks (Ty.countL ta (t.count (n+((nm.length / 50:Nat):Int)))) h.kids.2
  have h1':((nm.length / 50:Nat):Int)≤2814749767106:=by simp only [Ex.name] at h1;omega
  simp only [Ex.count]
  have h0:0≤((nm.length / 50:Nat):Int):=by omega
  generalize ((nm.length / 50:Nat):Int)=q at *
  omega
theorem Ex.countL_bd:∀ (l:List Ex)(n:Int),(∀ t,t∈l→t.Ok)→n≤Ex.countL l n∧Ex.countL l n≤max n (2000+6000000000000)
 | [],n,_=>by simp only [Ex.countL];omega
 | t::ts,n,h=>by
  simp only [Ex.countL]
  split
  ·have h1:=Ex.count_bd t n (h t (by simp))
   have h2:=Ex.countL_bd ts (t.count n) (fun u hu=>h u (by simp [hu]))
   omega
  ·omega
end
abbrev q2r:List Nat:=[0,1,2,4,5,6,24,42]
theorem ok_Count05:∀ (e:Ex)(n:Int),0≤n→n≤cap - 100000000000000→CallOK prog 130 [exV e,intV n] (intV (e.count n)):=by
 intro e
 induction e using Ex.induct with
 | h e ih =>
 intro n h0 h1
 refine CallB.bd (Enters.of func130 rfl (by decide)) fun hbd=>?_
 have hok:=ex_ok hbd.1
 have hq:=div50_le hok.name
 have ht:=Ty.count_bd e.type (n+((e.name.length / 50:Nat):Int)) hok.type
 have ht2:=Ty.countL_bd e.targs (e.type.count (n+((e.name.length / 50:Nat):Int))) hok.targs.2
 have hl1:=hok.targs.1
 have hl2:=hok.kids.1
 have heqn:=Ex.count_eq e n
 refine cB func130 ?_
 refine sR q2r ?_
 (refine sQ q2r fun K hK=>?_;refine ev ?_)
 refine⟨(by first | (unfold InR;omega) | (simp only [InR,sm,lim] at *;omega)),by unfold InR cap at *;omega,intV (e.type.count (n+((e.name.length / 50:Nat):Int))),.inl ⟨_,rfl,ok_Count04 e.type _ (by omega) (by unfold cap at *;omega),rfl⟩,?_⟩
 refine ev ?_
 (apply hK;clear hK K)
 generalize e.type.count (n+((e.name.length / 50:Nat):Int))=n1 at *
 refine sK fun K1 u1=>?_
 have fin:∀ sl bx,sle sl [(1,intV (Ty.countL e.targs n1)),(2,.box 2 0)]→ble bx [(2,.cells ((exC e).map .d))]→K1 sl bx:=by
  intro sl bx h1 h2
  refine u1 _ _ (AWp.weaken h1 h2 ?_)
  clear u1 K1
  generalize Ty.countL e.targs n1=n2 at *
  refine kR q2r fun K1 u1=>?_
  have fin:∀ sl bx,sle sl [(1,intV (Ex.countL e.kids n2))]→ble bx []→K1 sl bx:=by
   intro sl bx h1 h2
   refine u1 _ _ (AWp.weaken h1 h2 ?_)
   refine sR q2r ?_
   rw [heqn]
   exact aR
  refine AWp.block (AWp.loop (X:=Nat × Int) (fun x=>[(1,intV x.2),(6,intV x.1),(2,.box 2 0)]) (fun _=>[(2,.cells ((exC e).map .d))])
   (fun x=>x.1≤e.kids.length∧0≤x.2∧x.2≤cap+100000000000000∧Ex.countL (e.kids.drop x.1) x.2=Ex.countL e.kids n2) (fun x=>e.kids.length - x.1) (0,n2) ?_ ?_ ?_ ?_)
  ·exact⟨by simp,by omega,by unfold cap at *;omega,by first | rfl | simp⟩
  ·simp [sle,vle,sget]
  ·exact (by simp [ble,bget,exC,tyC,foC,paC,siC,deC,prC])
  rintro⟨i,m⟩ ⟨hi,hm0,hm1,heq⟩
  simp only at hi hm0 hm1 heq
  by_cases hlt:(i:Int) < (e.kids.length:Int)
  ·have hlt':i < e.kids.length:=by omega
   have hx:e.kids[i]? = some e.kids[i]:=List.getElem?_eq_getElem hlt'
   have hmem:e.kids[i]∈e.kids:=List.getElem_mem hlt'
   have dp:e.kids.drop i=e.kids[i]::e.kids.drop (i+1):=List.drop_eq_getElem_cons hlt'
   generalize e.kids[i]=x at *
   rw [dp,Ex.countL] at heq
   refine sK fun K2 u2=>?_
   by_cases hm:m≤2000
   ·rw [if_pos hm] at heq
    refine sR2 hlt hm q2r ?_
    refine AWp.condT rfl (AWp.skip (u2 _ _ ?_))
    clear u2 K2
    refine sK fun K2 u2=>?_
    refine AWp.block ?_
    (refine lQ q2r fun K hK=>?_;refine ev1 hlt ?_)
    (refine⟨by omega,exC x,exR_get hx,rfl,?_⟩;refine ev1 hlt ?_;refine⟨intV (x.count m),.inl ⟨_,rfl,ih x hmem m hm0 (by unfold cap;omega),rfl⟩,?_⟩;refine ev1 hlt ?_)
    (apply hK;clear hK K;try simp only [thenA,blockA,if_true])
    refine u2 _ _ ?_
    clear u2 K2
    (refine lQ q2r fun K hK=>?_;refine ev ?_)
    refine⟨by unfold InR;unfold lim at *;omega,?_⟩
    (apply hK;clear hK K;try simp only [thenA,blockA,if_true])
    have hb:=Ex.count_bd x m (hok.kids.2 x hmem)
    exact⟨(i+1,x.count m),⟨by simp only;omega,by simp only;omega,by simp only;unfold cap;omega,heq⟩,by simp only;omega,by simp [sle,vle,sget],(by simp [ble,bget,exC,tyC,foC,paC,siC,deC,prC])⟩
   ·rw [if_neg hm] at heq
    refine sR2 hlt hm q2r ?_
    refine AWp.condF rfl (AWp.exit ?_)
    simp only [thenA,blockA,if_true]
    exact fin _ _ (by simp [sle,vle,sget,heq]) (by simp [ble,bget,exC,tyC,foC,paC,siC,deC,prC])
  ·refine kR1 hlt q2r fun K2 u2=>?_
   refine AWp.condF rfl (AWp.exit ?_)
   simp only [thenA,blockA,if_true]
   rw [List.drop_eq_nil_of_le (by omega),Ex.countL] at heq
   exact fin _ _ (by simp [sle,vle,sget,heq]) (by simp [ble,bget,exC,tyC,foC,paC,siC,deC,prC])
 refine sR q2r ?_
 refine AWp.block (AWp.loop (X:=Nat × Int) (fun x=>[(1,intV x.2),(5,intV x.1),(2,.box 2 0)]) (fun _=>[(2,.cells ((exC e).map .d))])
  (fun x=>x.1≤e.targs.length∧0≤x.2∧x.2≤cap+100000000000000∧Ty.countL (e.targs.drop x.1) x.2=Ty.countL e.targs n1) (fun x=>e.targs.length - x.1) (0,n1) ?_ ?_ ?_ ?_)
 ·exact⟨by simp,by omega,by unfold cap at *;omega,by first | rfl | simp⟩
 ·simp [sle,vle,sget]
 ·exact (by simp [ble,bget,exC,tyC,foC,paC,siC,deC,prC])
 rintro⟨i,m⟩ ⟨hi,hm0,hm1,heq⟩
 simp only at hi hm0 hm1 heq
 by_cases hlt:(i:Int) < (e.targs.length:Int)
 ·have hlt':i < e.targs.length:=by omega
  have hx:e.targs[i]? = some e.targs[i]:=List.getElem?_eq_getElem hlt'
  have hmem:e.targs[i]∈e.targs:=List.getElem_mem hlt'
  have dp:e.targs.drop i=e.targs[i]::e.targs.drop (i+1):=List.drop_eq_getElem_cons hlt'
  generalize e.targs[i]=x at *
  rw [dp,Ty.countL] at heq
  refine sK fun K2 u2=>?_
  by_cases hm:m≤2000
  ·rw [if_pos hm] at heq
   refine sR2 hlt hm q2r ?_
   refine AWp.condT rfl (AWp.skip (u2 _ _ ?_))
   clear u2 K2
   refine sK fun K2 u2=>?_
   refine AWp.block ?_
   (refine lQ q2r fun K hK=>?_;refine ev1 hlt ?_)
   (refine⟨by omega,tyC x,tyR_get hx,rfl,?_⟩;refine ev1 hlt ?_;refine⟨intV (x.count m),.inl ⟨_,rfl,ok_Count04 x m hm0 (by unfold cap;omega),rfl⟩,?_⟩;refine ev1 hlt ?_)
   (apply hK;clear hK K;try simp only [thenA,blockA,if_true])
   refine u2 _ _ ?_
   clear u2 K2
   (refine lQ q2r fun K hK=>?_;refine ev ?_)
   refine⟨by unfold InR;unfold lim at *;omega,?_⟩
   (apply hK;clear hK K;try simp only [thenA,blockA,if_true])
   have hb:=Ty.count_bd x m (hok.targs.2 x hmem)
   exact⟨(i+1,x.count m),⟨by simp only;omega,by simp only;omega,by simp only;unfold cap;omega,heq⟩,by simp only;omega,by simp [sle,vle,sget],(by simp [ble,bget,exC,tyC,foC,paC,siC,deC,prC])⟩
  ·rw [if_neg hm] at heq
   refine sR2 hlt hm q2r ?_
   refine AWp.condF rfl (AWp.exit ?_)
   simp only [thenA,blockA,if_true]
   exact fin _ _ (by simp [sle,vle,sget,heq]) (by simp [ble,bget,exC,tyC,foC,paC,siC,deC,prC])
 ·refine kR1 hlt q2r fun K2 u2=>?_
  refine AWp.condF rfl (AWp.exit ?_)
  simp only [thenA,blockA,if_true]
  rw [List.drop_eq_nil_of_le (by omega),Ty.countL] at heq
  exact fin _ _ (by simp [sle,vle,sget,heq]) (by simp [ble,bget,exC,tyC,foC,paC,siC,deC,prC])
def foCount:List Formal→Int→Int
 | [],n=>n
 | f::fs,n=>if n≤2000 then foCount fs (f.bound.count (n+1+((f.name.length / 50:Nat):Int))) else n
def paCount:List Param→Int→Int
 | [],n=>n
 | f::fs,n=>if n≤2000 then paCount fs (f.type.count (n+1+((f.name.length / 50:Nat):Int))) else n
theorem fo1_bd (f:Formal)(n:Int)(h:f.Ok):n≤f.bound.count (n+1+((f.name.length / 50:Nat):Int))∧f.bound.count (n+1+((f.name.length / 50:Nat):Int))≤max n 2000+6000000000000:=by
 have h1:=div50_le h.name
 have h2:=Ty.count_bd f.bound (n+1+((f.name.length / 50:Nat):Int)) h.bound
 omega
theorem pa1_bd (f:Param)(n:Int)(h:f.Ok):n≤f.type.count (n+1+((f.name.length / 50:Nat):Int))∧f.type.count (n+1+((f.name.length / 50:Nat):Int))≤max n 2000+6000000000000:=by
 have h1:=div50_le h.name
 have h2:=Ty.count_bd f.type (n+1+((f.name.length / 50:Nat):Int)) h.type
 omega
theorem foCount_bd:∀ (l:List Formal)(n:Int),(∀ t,t∈l→t.Ok)→n≤foCount l n∧foCount l n≤max n (2000+6000000000000)
 | [],n,_=>by simp only [foCount];omega
 | t::ts,n,h=>by
  simp only [foCount]
  split
  ·have h1:=fo1_bd t n (h t (by simp))
   have h2:=foCount_bd ts (t.bound.count (n+1+((t.name.length / 50:Nat):Int))) (fun u hu=>h u (by simp [hu]))
   omega
  ·omega
theorem paCount_bd:∀ (l:List Param)(n:Int),(∀ t,t∈l→t.Ok)→n≤paCount l n∧paCount l n≤max n (2000+6000000000000)
 | [],n,_=>by simp only [paCount];omega
 | t::ts,n,h=>by
  simp only [paCount]
  split
  ·have h1:=pa1_bd t n (h t (by simp))
   have h2:=paCount_bd ts (t.type.count (n+1+((t.name.length / 50:Nat):Int))) (fun u hu=>h u (by simp [hu]))
   omega
  ·omega
abbrev q3r:List Nat:=[0,1,4,5,13]
theorem ok_foCount (l:List Formal)(n:Int)(h0:0≤n)(h1:n≤cap - 100000000000000):CallOK prog 146 [.d (.slice (foR l)),intV n] (intV (foCount l n)):=by
 refine CallB.bd (Enters.of func146 rfl (by decide)) fun hbd=>?_
 have hok:=fos_ok hbd.1
 have hl:=hok.1
 refine cB func146 ?_
 refine sR q3r ?_
 refine sK fun K1 u1=>?_
 have fin:∀ sl bx,sle sl [(1,intV (foCount l n))]→ble bx []→K1 sl bx:=by
  intro sl bx h1 h2
  refine u1 _ _ (AWp.weaken h1 h2 ?_)
  clear u1 K1
  refine sR q3r ?_
  exact aR
 refine sR q3r ?_
 refine AWp.block (AWp.loop (X:=Nat × Int) (fun x=>[(1,intV x.2),(5,intV x.1),(0,.d (.slice (foR l)))]) (fun _=>[])
  (fun x=>x.1≤l.length∧0≤x.2∧x.2≤cap+100000000000000∧foCount (l.drop x.1) x.2=foCount l n) (fun x=>l.length - x.1) (0,n) ?_ ?_ ?_ ?_)
 ·exact⟨by simp,by omega,by unfold cap at *;omega,by first | rfl | simp⟩
 ·simp [sle,vle,sget]
 ·exact (by simp [ble,bget,exC,tyC,foC,paC,siC,deC,prC])
 rintro⟨i,m⟩ ⟨hi,hm0,hm1,heq⟩
 simp only at hi hm0 hm1 heq
 by_cases hlt:(i:Int) < (l.length:Int)
 ·have hlt':i < l.length:=by omega
  have hx:l[i]? = some l[i]:=List.getElem?_eq_getElem hlt'
  have hmem:l[i]∈l:=List.getElem_mem hlt'
  have dp:l.drop i=l[i]::l.drop (i+1):=List.drop_eq_getElem_cons hlt'
  generalize l[i]=x at *
  rw [dp,foCount] at heq
  refine sK fun K2 u2=>?_
  by_cases hm:m≤2000
  ·rw [if_pos hm] at heq
   refine sR2 hlt hm q3r ?_
   refine AWp.condT rfl (AWp.skip (u2 _ _ ?_))
   clear u2 K2
   refine sK fun K2 u2=>?_
   refine AWp.block ?_
   (refine lG q3r [] 15 [] fun K hK=>?_;simp -implicitDefEqProofs only [EV,forall_const,implies_true,Nat.reduceAdd,Nat.reduceEqDiff,Nat.reduceBEq,Nat.reduceLeDiff,Nat.reduceSub,Nat.reduceMul,Int.reduceEq,Int.reduceLT,Int.reduceLE,Int.reduceSub,Int.reduceAdd,Int.reduceToNat,reduceCtorEq,Int.reduceNeg,TF3,TF4,TF9,TF25,TF49,TF147,hlt])
   (have hq:=div50_le (hok.2 x hmem).name;refine⟨by omega,foC x,foR_get hx,rfl,?_⟩;refine ev1 hlt ?_;refine⟨by unfold InR cap at *;omega,by omega,foC x,foR_get hx,rfl,?_⟩;refine ev1 hlt ?_;refine⟨(by first | (unfold InR;omega) | (simp only [InR,sm,lim] at *;omega)),by unfold InR cap at *;omega,intV (x.bound.count (m+1+((x.name.length / 50:Nat):Int))),.inl ⟨_,rfl,ok_Count04 _ _ (by omega) (by unfold cap at *;omega),rfl⟩,?_⟩;refine ev1 hlt ?_)
   (apply hK;clear hK K;try simp only [thenA,blockA,if_true])
   refine u2 _ _ ?_
   clear u2 K2
   (refine lQ q3r fun K hK=>?_;refine ev ?_)
   refine⟨by unfold InR;unfold lim at *;omega,?_⟩
   (apply hK;clear hK K;try simp only [thenA,blockA,if_true])
   have hb:=fo1_bd x m (hok.2 x hmem)
   exact⟨(i+1,x.bound.count (m+1+((x.name.length / 50:Nat):Int))),⟨by simp only;omega,by simp only;omega,by simp only;unfold cap;omega,heq⟩,by simp only;omega,by simp [sle,vle,sget],(by simp [ble,bget,exC,tyC,foC,paC,siC,deC,prC])⟩
  ·rw [if_neg hm] at heq
   refine sR2 hlt hm q3r ?_
   refine AWp.condF rfl (AWp.exit ?_)
   simp only [thenA,blockA,if_true]
   exact fin _ _ (by simp [sle,vle,sget,heq]) (by simp [ble,bget,exC,tyC,foC,paC,siC,deC,prC])
 ·refine kR1 hlt q3r fun K2 u2=>?_
  refine AWp.condF rfl (AWp.exit ?_)
  simp only [thenA,blockA,if_true]
  rw [List.drop_eq_nil_of_le (by omega),foCount] at heq
  exact fin _ _ (by simp [sle,vle,sget,heq]) (by simp [ble,bget,exC,tyC,foC,paC,siC,deC,prC])
abbrev q4r:List Nat:=[0,1,4,5,13]
theorem ok_paCount (l:List Param)(n:Int)(h0:0≤n)(h1:n≤cap - 100000000000000):CallOK prog 145 [.d (.slice (paR l)),intV n] (intV (paCount l n)):=by
 refine CallB.bd (Enters.of func145 rfl (by decide)) fun hbd=>?_
 have hok:=pas_ok hbd.1
 have hl:=hok.1
 refine cB func145 ?_
 refine sR q4r ?_
 refine sK fun K1 u1=>?_
 have fin:∀ sl bx,sle sl [(1,intV (paCount l n))]→ble bx []→K1 sl bx:=by
  intro sl bx h1 h2
  refine u1 _ _ (AWp.weaken h1 h2 ?_)
  clear u1 K1
  refine sR q4r ?_
  exact aR
 refine sR q4r ?_
 refine AWp.block (AWp.loop (X:=Nat × Int) (fun x=>[(1,intV x.2),(5,intV x.1),(0,.d (.slice (paR l)))]) (fun _=>[])
  (fun x=>x.1≤l.length∧0≤x.2∧x.2≤cap+100000000000000∧paCount (l.drop x.1) x.2=paCount l n) (fun x=>l.length - x.1) (0,n) ?_ ?_ ?_ ?_)
 ·exact⟨by simp,by omega,by unfold cap at *;omega,by first | rfl | simp⟩
 ·simp [sle,vle,sget]
 ·exact (by simp [ble,bget,exC,tyC,foC,paC,siC,deC,prC])
 rintro⟨i,m⟩ ⟨hi,hm0,hm1,heq⟩
 simp only at hi hm0 hm1 heq
 by_cases hlt:(i:Int) < (l.length:Int)
 ·have hlt':i < l.length:=by omega
  have hx:l[i]? = some l[i]:=List.getElem?_eq_getElem hlt'
  have hmem:l[i]∈l:=List.getElem_mem hlt'
  have dp:l.drop i=l[i]::l.drop (i+1):=List.drop_eq_getElem_cons hlt'
  generalize l[i]=x at *
  rw [dp,paCount] at heq
  refine sK fun K2 u2=>?_
  by_cases hm:m≤2000
  ·rw [if_pos hm] at heq
   refine sR2 hlt hm q4r ?_
   refine AWp.condT rfl (AWp.skip (u2 _ _ ?_))
   clear u2 K2
   refine sK fun K2 u2=>?_
   refine AWp.block ?_
   (refine lG q4r [] 15 [] fun K hK=>?_;simp -implicitDefEqProofs only [EV,forall_const,implies_true,Nat.reduceAdd,Nat.reduceEqDiff,Nat.reduceBEq,Nat.reduceLeDiff,Nat.reduceSub,Nat.reduceMul,Int.reduceEq,Int.reduceLT,Int.reduceLE,Int.reduceSub,Int.reduceAdd,Int.reduceToNat,reduceCtorEq,Int.reduceNeg,TF3,TF4,TF9,TF25,TF50,TF96,hlt])
   (have hq:=div50_le (hok.2 x hmem).name;refine⟨by omega,paC x,paR_get hx,rfl,?_⟩;refine ev1 hlt ?_;refine⟨by unfold InR cap at *;omega,by omega,paC x,paR_get hx,rfl,?_⟩;refine ev1 hlt ?_;refine⟨(by first | (unfold InR;omega) | (simp only [InR,sm,lim] at *;omega)),by unfold InR cap at *;omega,intV (x.type.count (m+1+((x.name.length / 50:Nat):Int))),.inl ⟨_,rfl,ok_Count04 _ _ (by omega) (by unfold cap at *;omega),rfl⟩,?_⟩;refine ev1 hlt ?_)
   (apply hK;clear hK K;try simp only [thenA,blockA,if_true])
   refine u2 _ _ ?_
   clear u2 K2
   (refine lQ q4r fun K hK=>?_;refine ev ?_)
   refine⟨by unfold InR;unfold lim at *;omega,?_⟩
   (apply hK;clear hK K;try simp only [thenA,blockA,if_true])
   have hb:=pa1_bd x m (hok.2 x hmem)
   exact⟨(i+1,x.type.count (m+1+((x.name.length / 50:Nat):Int))),⟨by simp only;omega,by simp only;omega,by simp only;unfold cap;omega,heq⟩,by simp only;omega,by simp [sle,vle,sget],(by simp [ble,bget,exC,tyC,foC,paC,siC,deC,prC])⟩
  ·rw [if_neg hm] at heq
   refine sR2 hlt hm q4r ?_
   refine AWp.condF rfl (AWp.exit ?_)
   simp only [thenA,blockA,if_true]
   exact fin _ _ (by simp [sle,vle,sget,heq]) (by simp [ble,bget,exC,tyC,foC,paC,siC,deC,prC])
 ·refine kR1 hlt q4r fun K2 u2=>?_
  refine AWp.condF rfl (AWp.exit ?_)
  simp only [thenA,blockA,if_true]
  rw [List.drop_eq_nil_of_le (by omega),paCount] at heq
  exact fin _ _ (by simp [sle,vle,sget,heq]) (by simp [ble,bget,exC,tyC,foC,paC,siC,deC,prC])
def Sig.count (s:Sig)(n:Int):Int:=s.result.count (paCount s.params (foCount s.formals (n+((s.name.length / 50:Nat):Int))))
theorem Sig.count_bd (s:Sig)(n:Int)(h:s.Ok):n≤s.count n∧s.count n≤max n 2000+10000000000000:=by
 have h1:=div50_le h.name
 have h2:=foCount_bd s.formals (n+((s.name.length / 50:Nat):Int)) h.formals.2
 have h3:=paCount_bd s.params (foCount s.formals (n+((s.name.length / 50:Nat):Int))) h.params.2
 have h4:=Ty.count_bd s.result (paCount s.params (foCount s.formals (n+((s.name.length / 50:Nat):Int)))) h.result
 unfold Sig.count
 omega
theorem ok_countSig (s:Sig)(n:Int)(h0:0≤n)(h1:n≤cap - 200000000000000):CallOK prog 147 [siV s,intV n] (intV (s.count n)):=by
 refine CallB.bd (Enters.of func147 rfl (by decide)) fun hbd=>?_
 have h:=sig_ok hbd.1
 have hq:=div50_le h.name
 have h2:=foCount_bd s.formals (n+((s.name.length / 50:Nat):Int)) h.formals.2
 have h3:=paCount_bd s.params (foCount s.formals (n+((s.name.length / 50:Nat):Int))) h.params.2
 refine cB func147 ?_
 refine sR [0,1,2,4] ?_
 (refine sG [0,1,2,4] [] 14 [] fun K hK=>?_;refine ev ?_)
 refine⟨(by first | (unfold InR;omega) | (simp only [InR,sm,lim] at *;omega)),by unfold InR cap at *;omega,intV (foCount s.formals (n+((s.name.length / 50:Nat):Int))),.inl ⟨_,rfl,ok_foCount _ _ (by omega) (by unfold cap at *;omega),rfl⟩,?_⟩
 refine ev ?_
 refine⟨intV (paCount s.params (foCount s.formals (n+((s.name.length / 50:Nat):Int)))),.inl ⟨_,rfl,ok_paCount _ _ (by omega) (by unfold cap at *;omega),rfl⟩,?_⟩
 refine ev ?_
 refine⟨intV (s.count n),.inl ⟨_,rfl,ok_Count04 _ _ (by omega) (by unfold cap at *;omega),rfl⟩,?_⟩
 refine ev ?_
 (apply hK;clear hK K)
 exact aR
def vaCount:List Str→Int→Int
 | [],n=>n
 | v::vs,n=>if n≤2000 then vaCount vs (n+1+((v.length / 50:Nat):Int)) else n
def siCount:List Sig→Int→Int
 | [],n=>n
 | s::ss,n=>if n≤2000 then siCount ss (s.count n) else n
def Decl.count2 (d:Decl)(n:Int):Int:=if n≤2000 then d.body.count (d.sig.count n) else n
def Decl.count (d:Decl)(n:Int):Int :=
 d.count2 (vaCount d.vars (siCount d.sigs (paCount d.fields (foCount d.formals (n+1+((d.name.length / 50:Nat):Int)+((d.recv.length / 50:Nat):Int))))))
def deCount:List Decl→Int→Int
 | [],n=>n
 | d::ds,n=>if n≤2000 then deCount ds (d.count n) else n
def Prog.count (p:Prog):Int:=deCount p.decls (p.main.count 0)
theorem vaCount_bd:∀ (l:List Str)(n:Int),(∀ t,t∈l→t.length≤lim)→n≤vaCount l n∧vaCount l n≤max n (2000+6000000000000)
 | [],n,_=>by simp only [vaCount];omega
 | t::ts,n,h=>by
  simp only [vaCount]
  split
  ·have h1:=div50_le (h t (by simp))
   have h2:=vaCount_bd ts (n+1+((t.length / 50:Nat):Int)) (fun u hu=>h u (by simp [hu]))
   omega
  ·omega
theorem siCount_bd:∀ (l:List Sig)(n:Int),(∀ t,t∈l→t.Ok)→n≤siCount l n∧siCount l n≤max n (2000+10000000000000)
 | [],n,_=>by simp only [siCount];omega
 | t::ts,n,h=>by
  simp only [siCount]
  split
  ·have h1:=Sig.count_bd t n (h t (by simp))
   have h2:=siCount_bd ts (t.count n) (fun u hu=>h u (by simp [hu]))
   omega
  ·omega
theorem Decl.count2_bd (d:Decl)(n:Int)(h:d.Ok):n≤d.count2 n∧d.count2 n≤max n (2000+20000000000000):=by
 have h1:=Sig.count_bd d.sig n h.sig
 have h2:=Ex.count_bd d.body (d.sig.count n) h.body
 unfold Decl.count2
 split <;> omega
theorem Decl.count_bd (d:Decl)(n:Int)(h:d.Ok):n≤d.count n∧d.count n≤max n 2000+30000000000000:=by
 have h1:=div50_le h.name
 have h2:=div50_le h.recv
 unfold Decl.count
 generalize hq:n+1+((d.name.length / 50:Nat):Int)+((d.recv.length / 50:Nat):Int)=n0
 have h3:=foCount_bd d.formals n0 h.formals.2
 have h4:=paCount_bd d.fields (foCount d.formals n0) h.fields.2
 have h5:=siCount_bd d.sigs (paCount d.fields (foCount d.formals n0)) h.sigs.2
 have h6:=vaCount_bd d.vars (siCount d.sigs (paCount d.fields (foCount d.formals n0))) h.vars.2
 have h7:=Decl.count2_bd d (vaCount d.vars (siCount d.sigs (paCount d.fields (foCount d.formals n0)))) h
 omega
abbrev q5r:List Nat:=[0,1,2,3,4,5,6,7,19,53,71,85]
set_option maxHeartbeats 2000000 in
theorem ok_Count06 (p:Prog):CallOK prog 74 [prV p] (intV p.count):=by
 refine CallB.bd (Enters.of func74 rfl (by decide)) fun hbd=>?_
 have hok:=prog_ok hbd.1
 have he:=Ex.count_bd p.main 0 hok.main
 have hl:=hok.decls.1
 have hcount:p.count=deCount p.decls (p.main.count 0):=rfl
 refine cB func74 ?_
 refine sR q5r ?_
 (refine sQ q5r fun K hK=>?_;refine ev ?_)
 refine⟨intV (p.main.count 0),.inl ⟨_,rfl,ok_Count05 _ 0 (by omega) (by unfold cap;omega),rfl⟩,?_⟩
 refine ev ?_
 (apply hK;clear hK K)
 generalize p.main.count 0=n1 at *
 refine sK fun K1 u1=>?_
 have fin:∀ sl bx,sle sl [(3,intV (deCount p.decls n1))]→ble bx []→K1 sl bx:=by
  intro sl bx h1 h2
  refine u1 _ _ (AWp.weaken h1 h2 ?_)
  clear u1 K1
  refine sR q5r ?_
  rw [hcount]
  exact aR
 refine sR q5r ?_
 refine AWp.block (AWp.loop (X:=Nat × Int) (fun x=>[(3,intV x.2),(4,intV x.1),(1,.box 1 0)]) (fun _=>[(1,.cells ((prC p).map .d))])
  (fun x=>x.1≤p.decls.length∧0≤x.2∧x.2≤100000000000000∧deCount (p.decls.drop x.1) x.2=deCount p.decls n1) (fun x=>p.decls.length - x.1) (0,n1) ?_ ?_ ?_ ?_)
 ·exact⟨by simp,by omega,by omega,by first | rfl | simp⟩
 ·exact sS
 ·exact (by simp [ble,bget,exC,tyC,foC,paC,siC,deC,prC])
 rintro⟨j,k⟩ ⟨hj,hk0,hk1,heq⟩
 simp only at hj hk0 hk1 heq
 by_cases hlt:(j:Int) < (p.decls.length:Int)
 ·have hlt':j < p.decls.length:=by omega
  have hy:p.decls[j]? = some p.decls[j]:=List.getElem?_eq_getElem hlt'
  have hmemy:p.decls[j]∈p.decls:=List.getElem_mem hlt'
  have dp:p.decls.drop j=p.decls[j]::p.decls.drop (j+1):=List.drop_eq_getElem_cons hlt'
  generalize p.decls[j]=y at *
  have hyok:=hok.decls.2 y hmemy
  rw [dp,deCount] at heq
  refine sK fun K2 u2=>?_
  by_cases hm:k≤2000
  ·rw [if_pos hm] at heq
   refine sR2 hlt hm q5r ?_
   refine AWp.condT rfl (AWp.skip (u2 _ _ ?_))
   clear u2 K2
   refine sK fun K2 u2=>?_
   have fin:∀ sl bx,sle sl [(3,intV (y.count k)),(4,intV j),(1,.box 1 0)]→ble bx [(1,.cells ((prC p).map .d))]→K2 sl bx:=by
    intro sl bx h1 h2
    refine u2 _ _ (AWp.weaken h1 h2 ?_)
    clear u2 K2
    (refine lQ q5r fun K hK=>?_;refine ev ?_)
    refine⟨by unfold InR;unfold lim at *;omega,?_⟩
    (apply hK;clear hK K;try simp only [thenA,blockA,if_true])
    have hb:=Decl.count_bd y k hyok
    exact⟨(j+1,y.count k),⟨by simp only;omega,by simp only;omega,by simp only;omega,heq⟩,by simp only;omega,by simp [sle,vle,sget],(by simp [ble,bget,exC,tyC,foC,paC,siC,deC,prC])⟩
   clear u2
   have hyc:y.count k=y.count2 (vaCount y.vars (siCount y.sigs (paCount y.fields (foCount y.formals (k+1+((y.name.length / 50:Nat):Int)+((y.recv.length / 50:Nat):Int)))))):=rfl
   generalize y.count k=res at *
   have hq1:=div50_le hyok.name
   have hq2:=div50_le hyok.recv
   refine AWp.block ?_
   (refine sQ q5r fun K hK=>?_;refine ev1 hlt ?_)
   refine⟨by omega,deC y,deR_get hy,rfl,?_⟩
   refine ev1 hlt ?_
   (apply hK;clear hK K)
   (refine sG q5r [] 17 [] fun K hK=>?_;simp -implicitDefEqProofs only [EV,forall_const,implies_true,Nat.reduceAdd,Nat.reduceEqDiff,Nat.reduceBEq,Nat.reduceLeDiff,Nat.reduceSub,Nat.reduceMul,Int.reduceEq,Int.reduceLT,Int.reduceLE,Int.reduceSub,Int.reduceAdd,Int.reduceToNat,reduceCtorEq,Int.reduceNeg,TF3,TF4,TF9,TF22,TF28,TF30,TF49,TF50,TF52,TF58,TF59,TF61,TF96,TF147])
   generalize hq3:k+1+((y.name.length / 50:Nat):Int)+((y.recv.length / 50:Nat):Int)=n2 at *
   have h3:=foCount_bd y.formals n2 hyok.formals.2
   have h4:=paCount_bd y.fields (foCount y.formals n2) hyok.fields.2
   refine⟨(by first | (unfold InR;omega) | (simp only [InR,sm,lim] at *;omega)),(by first | (unfold InR;omega) | (simp only [InR,sm,lim] at *;omega)),(by first | (unfold InR;omega) | (simp only [InR,sm,lim] at *;omega)),(by first | (unfold InR;omega) | (simp only [InR,sm,lim] at *;omega)),(by first | (unfold InR;omega) | (simp only [InR,sm,lim] at *;omega)),intV (foCount y.formals n2),.inl ⟨_,rfl,ok_foCount _ _ (by omega) (by unfold cap;omega),rfl⟩,?_⟩
   refine ev1 hlt ?_
   refine⟨intV (paCount y.fields (foCount y.formals n2)),.inl ⟨_,rfl,ok_paCount _ _ (by omega) (by unfold cap;omega),rfl⟩,?_⟩
   refine ev1 hlt ?_
   (apply hK;clear hK K)
   generalize hn3:paCount y.fields (foCount y.formals n2)=n3 at *
   have hl1:=hyok.sigs.1
   have hl2:=hyok.vars.1
   have h5:=siCount_bd y.sigs n3 hyok.sigs.2
   have h6:=vaCount_bd y.vars (siCount y.sigs n3) hyok.vars.2
   have hb1:=Sig.count_bd y.sig (vaCount y.vars (siCount y.sigs n3)) hyok.sig
   have hb2:=Ex.count_bd y.body (y.sig.count (vaCount y.vars (siCount y.sigs n3))) hyok.body
   refine sK fun K3 u3=>?_
   have fin:∀ sl bx,sle sl [(3,intV (siCount y.sigs n3)),(4,intV j),(1,.box 1 0),(5,.box 5 0)]→ble bx [(1,.cells ((prC p).map .d)),(5,.cells ((deC y).map .d))]→K3 sl bx:=by
    intro sl bx h1 h2
    refine u3 _ _ (AWp.weaken h1 h2 ?_)
    clear u3 K3
    generalize hn4:siCount y.sigs n3=n4 at *
    refine sK fun K3 u3=>?_
    have fin:∀ sl bx,sle sl [(3,intV (vaCount y.vars n4)),(4,intV j),(1,.box 1 0),(5,.box 5 0)]→ble bx [(1,.cells ((prC p).map .d)),(5,.cells ((deC y).map .d))]→K3 sl bx:=by
     intro sl bx h1 h2
     refine u3 _ _ (AWp.weaken h1 h2 ?_)
     clear u3 K3
     generalize hn5:vaCount y.vars n4=n5 at *
     refine sR q5r ?_
     unfold Decl.count2 at hyc
     by_cases hlast:n5≤2000
     ·rw [if_pos hlast] at hyc
      refine AWp.condT (by simp [opnd,sget,hlast]) ?_
      (refine lG q5r [] 6 [] fun K hK=>?_;refine ev1 hlast ?_)
      refine⟨intV (y.sig.count n5),.inl ⟨_,rfl,ok_countSig _ _ (by omega) (by unfold cap;omega),rfl⟩,?_⟩
      refine ev1 hlast ?_
      refine⟨intV (y.body.count (y.sig.count n5)),.inl ⟨_,rfl,ok_Count05 _ _ (by omega) (by unfold cap;omega),rfl⟩,?_⟩
      refine ev1 hlast ?_
      (apply hK;clear hK K;try simp only [thenA,blockA,if_true])
      exact fin _ _ (by simp [sle,vle,sget,hyc]) (by simp [ble,bget,exC,tyC,foC,paC,siC,deC,prC])
     ·rw [if_neg hlast] at hyc
      refine AWp.condF (by simp [opnd,sget,hlast]) (AWp.skip ?_)
      simp only [thenA,blockA,if_true]
      exact fin _ _ (by simp [sle,vle,sget,hyc]) (by simp [ble,bget,exC,tyC,foC,paC,siC,deC,prC])
    refine sR q5r ?_
    refine AWp.block (AWp.loop (X:=Nat × Int) (fun x=>[(3,intV x.2),(7,intV x.1),(4,intV j),(1,.box 1 0),(5,.box 5 0)]) (fun _=>[(1,.cells ((prC p).map .d)),(5,.cells ((deC y).map .d))])
     (fun x=>x.1≤y.vars.length∧0≤x.2∧x.2≤cap+100000000000000∧vaCount (y.vars.drop x.1) x.2=vaCount y.vars n4) (fun x=>y.vars.length - x.1) (0,n4) ?_ ?_ ?_ ?_)
    ·exact⟨by simp,by omega,by unfold cap at *;omega,by first | rfl | simp⟩
    ·simp [sle,vle,sget]
    ·exact (by simp [ble,bget,exC,tyC,foC,paC,siC,deC,prC])
    rintro⟨i,m⟩ ⟨hi,hm0,hm1,heq⟩
    simp only at hi hm0 hm1 heq
    by_cases hlt:(i:Int) < (y.vars.length:Int)
    ·have hlt':i < y.vars.length:=by omega
     have hx:y.vars[i]? = some y.vars[i]:=List.getElem?_eq_getElem hlt'
     have hmem:y.vars[i]∈y.vars:=List.getElem_mem hlt'
     have dp:y.vars.drop i=y.vars[i]::y.vars.drop (i+1):=List.drop_eq_getElem_cons hlt'
     generalize y.vars[i]=x at *
     rw [dp,vaCount] at heq
     refine sK fun K2 u2=>?_
     by_cases hm:m≤2000
     ·rw [if_pos hm] at heq
      refine sR2 hlt hm q5r ?_
      refine AWp.condT rfl (AWp.skip (u2 _ _ ?_))
      clear u2 K2
      refine sK fun K2 u2=>?_
      refine AWp.block ?_
      (refine lQ q5r fun K hK=>?_;simp -implicitDefEqProofs only [EV,forall_const,implies_true,Nat.reduceAdd,Nat.reduceEqDiff,Nat.reduceBEq,Nat.reduceLeDiff,Nat.reduceSub,Nat.reduceMul,Int.reduceEq,Int.reduceLT,Int.reduceLE,Int.reduceSub,Int.reduceAdd,Int.reduceToNat,reduceCtorEq,Int.reduceNeg,TF3,TF4,TF9,TF22,TF28,TF30,TF49,TF50,TF52,TF58,TF59,TF61,TF96,TF147,hlt])
      (have hq:=div50_le (hyok.vars.2 x hmem);refine⟨(by first | (unfold InR;omega) | (simp only [InR,sm,lim] at *;omega)),by omega,_,strR_get hx,rfl,?_⟩;refine ev1 hlt ?_;refine⟨(by first | (unfold InR;omega) | (simp only [InR,sm,lim] at *;omega)),by unfold InR cap at *;omega,?_⟩)
      (apply hK;clear hK K;try simp only [thenA,blockA,if_true])
      refine u2 _ _ ?_
      clear u2 K2
      (refine lQ q5r fun K hK=>?_;refine ev ?_)
      refine⟨by unfold InR;unfold lim at *;omega,?_⟩
      (apply hK;clear hK K;try simp only [thenA,blockA,if_true])
      have hb:=div50_le (hyok.vars.2 x hmem)
      exact⟨(i+1,m+1+((x.length / 50:Nat):Int)),⟨by simp only;omega,by simp only;omega,by simp only;unfold cap;omega,heq⟩,by simp only;omega,by simp [sle,vle,sget],(by simp [ble,bget,exC,tyC,foC,paC,siC,deC,prC])⟩
     ·rw [if_neg hm] at heq
      refine sR2 hlt hm q5r ?_
      refine AWp.condF rfl (AWp.exit ?_)
      simp only [thenA,blockA,if_true]
      exact fin _ _ (by simp [sle,vle,sget,heq]) (by simp [ble,bget,exC,tyC,foC,paC,siC,deC,prC])
    ·refine kR1 hlt q5r fun K2 u2=>?_
     refine AWp.condF rfl (AWp.exit ?_)
     simp only [thenA,blockA,if_true]
     rw [List.drop_eq_nil_of_le (by omega),vaCount] at heq
     exact fin _ _ (by simp [sle,vle,sget,heq]) (by simp [ble,bget,exC,tyC,foC,paC,siC,deC,prC])
   refine sR q5r ?_
   refine AWp.block (AWp.loop (X:=Nat × Int) (fun x=>[(3,intV x.2),(6,intV x.1),(4,intV j),(1,.box 1 0),(5,.box 5 0)]) (fun _=>[(1,.cells ((prC p).map .d)),(5,.cells ((deC y).map .d))])
    (fun x=>x.1≤y.sigs.length∧0≤x.2∧x.2≤cap+100000000000000∧siCount (y.sigs.drop x.1) x.2=siCount y.sigs n3) (fun x=>y.sigs.length - x.1) (0,n3) ?_ ?_ ?_ ?_)
   ·exact⟨by simp,by omega,by unfold cap at *;omega,by first | rfl | simp⟩
   ·simp [sle,vle,sget]
   ·exact (by simp [ble,bget,exC,tyC,foC,paC,siC,deC,prC])
   rintro⟨i,m⟩ ⟨hi,hm0,hm1,heq⟩
   simp only at hi hm0 hm1 heq
   by_cases hlt:(i:Int) < (y.sigs.length:Int)
   ·have hlt':i < y.sigs.length:=by omega
    have hx:y.sigs[i]? = some y.sigs[i]:=List.getElem?_eq_getElem hlt'
    have hmem:y.sigs[i]∈y.sigs:=List.getElem_mem hlt'
    have dp:y.sigs.drop i=y.sigs[i]::y.sigs.drop (i+1):=List.drop_eq_getElem_cons hlt'
    generalize y.sigs[i]=x at *
    rw [dp,siCount] at heq
    refine sK fun K2 u2=>?_
    by_cases hm:m≤2000
    ·rw [if_pos hm] at heq
     refine sR2 hlt hm q5r ?_
     refine AWp.condT rfl (AWp.skip (u2 _ _ ?_))
     clear u2 K2
     refine sK fun K2 u2=>?_
     refine AWp.block ?_
     (refine lQ q5r fun K hK=>?_;refine ev1 hlt ?_)
     (refine⟨by omega,siC x,siR_get hx,rfl,?_⟩;refine ev1 hlt ?_;refine⟨intV (x.count m),.inl ⟨_,rfl,ok_countSig x m hm0 (by unfold cap;omega),rfl⟩,?_⟩;refine ev1 hlt ?_)
     (apply hK;clear hK K;try simp only [thenA,blockA,if_true])
     refine u2 _ _ ?_
     clear u2 K2
     (refine lQ q5r fun K hK=>?_;refine ev ?_)
     refine⟨by unfold InR;unfold lim at *;omega,?_⟩
     (apply hK;clear hK K;try simp only [thenA,blockA,if_true])
     have hb:=Sig.count_bd x m (hyok.sigs.2 x hmem)
     exact⟨(i+1,x.count m),⟨by simp only;omega,by simp only;omega,by simp only;unfold cap;omega,heq⟩,by simp only;omega,by simp [sle,vle,sget],(by simp [ble,bget,exC,tyC,foC,paC,siC,deC,prC])⟩
    ·rw [if_neg hm] at heq
     refine sR2 hlt hm q5r ?_
     refine AWp.condF rfl (AWp.exit ?_)
     simp only [thenA,blockA,if_true]
     exact fin _ _ (by simp [sle,vle,sget,heq]) (by simp [ble,bget,exC,tyC,foC,paC,siC,deC,prC])
   ·refine kR1 hlt q5r fun K2 u2=>?_
    refine AWp.condF rfl (AWp.exit ?_)
    simp only [thenA,blockA,if_true]
    rw [List.drop_eq_nil_of_le (by omega),siCount] at heq
    exact fin _ _ (by simp [sle,vle,sget,heq]) (by simp [ble,bget,exC,tyC,foC,paC,siC,deC,prC])
  ·rw [if_neg hm] at heq
   refine sR2 hlt hm q5r ?_
   refine AWp.condF rfl (AWp.exit ?_)
   simp only [thenA,blockA,if_true]
   exact fin _ _ (by simp [sle,vle,sget,heq]) (by simp [ble,bget,exC,tyC,foC,paC,siC,deC,prC])
 ·refine kR1 hlt q5r fun K2 u2=>?_
  refine AWp.condF rfl (AWp.exit ?_)
  simp only [thenA,blockA,if_true]
  rw [List.drop_eq_nil_of_le (by omega),deCount] at heq
  exact fin _ _ (by simp [sle,vle,sget,heq]) (by simp [ble,bget,exC,tyC,foC,paC,siC,deC,prC])
theorem Prog.count_bd (p:Prog)(h:p.Ok):0≤p.count:=by
 have h1:=(Ex.count_bd p.main 0 h.main).1
 have h2:∀ (l:List Decl) (n:Int),(∀ d,d∈l→d.Ok)→n≤deCount l n:=by
  intro l
  induction l with
  | nil=>intro n _;simp [deCount]
  | cons d l ih =>
   intro n hl
   simp only [deCount]
   split
   ·have h3:=Decl.count_bd d n (hl d (by simp))
    have h4:=ih (d.count n) (fun u hu=>hl u (by simp [hu]))
    omega
   ·omega
 have h3:=h2 p.decls (p.main.count 0) h.decls.2
 unfold Prog.count
 omega
theorem ok_Few06 (p:Prog):CallOK prog 29 [prV p] (boolV (decide (p.count≤600))):=by
 refine cB func29 ?_
 refine sR [0,1,2] ?_
 refine sC (ok_Count06 p) [0,1,2] ?_
 exact aR
def Decl.isT (d:Decl)(nm:Str):Bool:=(decide (d.kind=1) || decide (d.kind=2)) && decide (d.name=nm)
def findD (nm:Str):List Decl→Nat→Int
 | [],_=>-1
 | d::ds,i=>if d.isT nm=true then i else findD nm ds (i+1)
abbrev q6r:List Nat:=[0,1,2,4,5,10,38]
theorem ok_Find (p:Prog)(nm:Str):CallOK prog 123 [prV p,strV nm] (intV (findD nm p.decls 0)):=by
 refine CallB.bd (Enters.of func123 rfl (by decide)) fun hbd=>?_
 have hok:=prog_ok hbd.1
 have hl:=hok.decls.1
 refine cB func123 ?_
 refine sR q6r ?_
 refine sK fun K1 u1=>?_
 have fin:∀ sl bx,findD nm p.decls 0 = -1→K1 sl bx:=by
  intro sl bx h1
  refine u1 _ _ (AWp.weaken (sl':=[]) (bx':=[]) trivial trivial ?_)
  clear u1 K1
  refine sR q6r ?_
  rw [h1]
  exact aR
 refine sR q6r ?_
 refine AWp.block (AWp.loop (X:=Nat) (fun x=>[(5,intV x),(1,strV nm),(2,.box 2 0)]) (fun _=>[(2,.cells ((prC p).map .d))])
  (fun x=>x≤p.decls.length∧findD nm (p.decls.drop x) x=findD nm p.decls 0) (fun x=>p.decls.length - x) 0 ?_ ?_ ?_ ?_)
 ·exact⟨by simp,rfl⟩
 ·exact sS
 ·exact (by simp [ble,bget,exC,tyC,foC,paC,siC,deC,prC])
 rintro j ⟨hj,heq⟩
 by_cases hlt:(j:Int) < (p.decls.length:Int)
 ·have hlt':j < p.decls.length:=by omega
  have hy:p.decls[j]? = some p.decls[j]:=List.getElem?_eq_getElem hlt'
  have dp:p.decls.drop j=p.decls[j]::p.decls.drop (j+1):=List.drop_eq_getElem_cons hlt'
  generalize p.decls[j]=y at *
  rw [dp,findD] at heq
  refine kR1 hlt q6r fun K2 u2=>?_
  refine AWp.condT rfl (AWp.skip (u2 _ _ ?_))
  clear u2 K2
  refine sK fun K2 u2=>?_
  refine AWp.block ?_
  by_cases hk1:y.kind=1
  ·by_cases hn:y.name=nm
   ·(refine sQ q6r fun K hK=>?_;simp -implicitDefEqProofs only [EV,forall_const,implies_true,Nat.reduceAdd,Nat.reduceEqDiff,Nat.reduceBEq,Nat.reduceLeDiff,Nat.reduceSub,Nat.reduceMul,Int.reduceEq,Int.reduceLT,Int.reduceLE,Int.reduceSub,Int.reduceAdd,Int.reduceToNat,reduceCtorEq,Int.reduceNeg,TF3,TF4,TF9,TF22,TF30,TF61,hlt,hk1,hn])
    repeat (refine⟨by omega,deC y,deR_get hy,rfl,?_⟩;refine ev3 hlt hk1 hn ?_)
    (apply hK;clear hK K)
    have ht:y.isT nm=true:=by simp [Decl.isT,hk1,hn]
    rw [if_pos ht] at heq
    refine AWp.condT rfl ?_
    refine sR q6r ?_
    rw [← heq]
    exact aR
   ·(refine sQ q6r fun K hK=>?_;simp -implicitDefEqProofs only [EV,forall_const,implies_true,Nat.reduceAdd,Nat.reduceEqDiff,Nat.reduceBEq,Nat.reduceLeDiff,Nat.reduceSub,Nat.reduceMul,Int.reduceEq,Int.reduceLT,Int.reduceLE,Int.reduceSub,Int.reduceAdd,Int.reduceToNat,reduceCtorEq,Int.reduceNeg,TF3,TF4,TF9,TF22,TF30,TF61,hlt,hk1,hn])
    repeat (refine⟨by omega,deC y,deR_get hy,rfl,?_⟩;refine ev3 hlt hk1 hn ?_)
    (apply hK;clear hK K)
    have ht:¬ y.isT nm=true:=by simp [Decl.isT,hk1,hn]
    rw [if_neg ht] at heq
    refine AWp.condF rfl (AWp.skip ?_)
    simp only [thenA,blockA,if_true]
    refine u2 _ _ ?_
    clear u2 K2
    (refine lQ q6r fun K hK=>?_;refine ev ?_)
    refine⟨by unfold InR;unfold lim at *;omega,?_⟩
    (apply hK;clear hK K;try simp only [thenA,blockA,if_true])
    exact⟨j+1,⟨by omega,heq⟩,by omega,by simp [sle,vle,sget],(by simp [ble,bget,exC,tyC,foC,paC,siC,deC,prC])⟩
  ·by_cases hk2:y.kind=2
   ·by_cases hn:y.name=nm
    ·(refine sQ q6r fun K hK=>?_;simp -implicitDefEqProofs only [EV,forall_const,implies_true,Nat.reduceAdd,Nat.reduceEqDiff,Nat.reduceBEq,Nat.reduceLeDiff,Nat.reduceSub,Nat.reduceMul,Int.reduceEq,Int.reduceLT,Int.reduceLE,Int.reduceSub,Int.reduceAdd,Int.reduceToNat,reduceCtorEq,Int.reduceNeg,TF3,TF4,TF9,TF22,TF30,TF61,hlt,hk1,hk2,hn])
     repeat (refine⟨by omega,deC y,deR_get hy,rfl,?_⟩;refine ev4 hlt hk1 hk2 hn ?_)
     (apply hK;clear hK K)
     have ht:y.isT nm=true:=by simp [Decl.isT,hk1,hk2,hn]
     rw [if_pos ht] at heq
     refine AWp.condT rfl ?_
     refine sR q6r ?_
     rw [← heq]
     exact aR
    ·(refine sQ q6r fun K hK=>?_;simp -implicitDefEqProofs only [EV,forall_const,implies_true,Nat.reduceAdd,Nat.reduceEqDiff,Nat.reduceBEq,Nat.reduceLeDiff,Nat.reduceSub,Nat.reduceMul,Int.reduceEq,Int.reduceLT,Int.reduceLE,Int.reduceSub,Int.reduceAdd,Int.reduceToNat,reduceCtorEq,Int.reduceNeg,TF3,TF4,TF9,TF22,TF30,TF61,hlt,hk1,hk2,hn])
     repeat (refine⟨by omega,deC y,deR_get hy,rfl,?_⟩;refine ev4 hlt hk1 hk2 hn ?_)
     (apply hK;clear hK K)
     have ht:¬ y.isT nm=true:=by simp [Decl.isT,hk1,hk2,hn]
     rw [if_neg ht] at heq
     refine AWp.condF rfl (AWp.skip ?_)
     simp only [thenA,blockA,if_true]
     refine u2 _ _ ?_
     clear u2 K2
     (refine lQ q6r fun K hK=>?_;refine ev ?_)
     refine⟨by unfold InR;unfold lim at *;omega,?_⟩
     (apply hK;clear hK K;try simp only [thenA,blockA,if_true])
     exact⟨j+1,⟨by omega,heq⟩,by omega,by simp [sle,vle,sget],(by simp [ble,bget,exC,tyC,foC,paC,siC,deC,prC])⟩
   ·(refine sQ q6r fun K hK=>?_;simp -implicitDefEqProofs only [EV,forall_const,implies_true,Nat.reduceAdd,Nat.reduceEqDiff,Nat.reduceBEq,Nat.reduceLeDiff,Nat.reduceSub,Nat.reduceMul,Int.reduceEq,Int.reduceLT,Int.reduceLE,Int.reduceSub,Int.reduceAdd,Int.reduceToNat,reduceCtorEq,Int.reduceNeg,TF3,TF4,TF9,TF22,TF30,TF61,hlt,hk1,hk2])
    repeat (refine⟨by omega,deC y,deR_get hy,rfl,?_⟩;refine ev3 hlt hk1 hk2 ?_)
    (apply hK;clear hK K)
    have ht:¬ y.isT nm=true:=by simp [Decl.isT,hk1,hk2]
    rw [if_neg ht] at heq
    refine AWp.condF rfl (AWp.skip ?_)
    simp only [thenA,blockA,if_true]
    refine u2 _ _ ?_
    clear u2 K2
    (refine lQ q6r fun K hK=>?_;refine ev ?_)
    refine⟨by unfold InR;unfold lim at *;omega,?_⟩
    (apply hK;clear hK K;try simp only [thenA,blockA,if_true])
    exact⟨j+1,⟨by omega,heq⟩,by omega,by simp [sle,vle,sget],(by simp [ble,bget,exC,tyC,foC,paC,siC,deC,prC])⟩
 ·refine kR1 hlt q6r fun K2 u2=>?_
  refine AWp.condF rfl (AWp.exit ?_)
  simp only [thenA,blockA,if_true]
  rw [List.drop_eq_nil_of_le (by omega),findD] at heq
  exact fin _ _ heq.symm
def kindOf (p:Prog)(nm:Str):Int:=match p.decls.find? (fun d=>d.isT nm) with
 | some d=>d.kind
 | none=>0
theorem findD_find (nm:Str):∀ (l:List Decl)(i:Nat),(findD nm l i = -1∧l.find? (fun d=>d.isT nm)=none)∨∃ k d,l[k]? = some d∧findD nm l i=((i+k:Nat):Int)∧l.find? (fun d=>d.isT nm)=some d
 | [],i=>by simp [findD]
 | d::ds,i=>by
  simp only [findD,List.find?_cons]
  split
  ·rename_i h;exact .inr ⟨0,d,rfl,rfl,by simp [h]⟩
  ·rename_i h
   rcases findD_find nm ds (i+1) with ⟨h1,h2⟩ | ⟨k,d',h1,h2,h3⟩
   ·exact .inl ⟨h1,by simp [h,h2]⟩
   ·exact .inr ⟨k+1,d',by simpa using h1,by rw [h2];congr 1;omega,by simp [h,h3]⟩
abbrev q7r:List Nat:=[0,1,2,4,5,10]
theorem ok_Kind (p:Prog)(nm:Str):CallOK prog 121 [prV p,strV nm] (intV (kindOf p nm)):=by
 refine CallB.bd (Enters.of func121 rfl (by decide)) fun hbd=>?_
 have hok:=prog_ok hbd.1
 have hl:=hok.decls.1
 refine cB func121 ?_
 refine sR q7r ?_
 refine sC (ok_Find p nm) q7r ?_
 refine sK fun K1 u1=>?_
 rcases findD_find nm p.decls 0 with ⟨h1,h2⟩ | ⟨k,d,h1,h2,h3⟩
 ·rw [h1]
  have hk:kindOf p nm=0:=by simp [kindOf,h2]
  refine sR q7r ?_
  refine AWp.condT rfl ?_
  refine sR q7r ?_
  rw [hk]
  exact aR
 ·rw [h2]
  have hk:kindOf p nm=d.kind:=by simp [kindOf,h3]
  have hge:¬ ((0+k:Nat):Int) < 0:=by omega
  have hkl:((0+k:Nat):Int).toNat=k:=by omega
  refine sR1 hge q7r ?_
  refine AWp.condF rfl (AWp.skip (u1 _ _ ?_))
  clear u1 K1
  (refine sQ q7r fun K hK=>?_;refine ev1 hkl ?_)
  refine⟨by omega,deC d,deR_get h1,rfl,?_⟩
  refine ev ?_
  (apply hK;clear hK K)
  rw [hk]
  exact aR
abbrev q8r:List Nat:=[0,1,4,5,9,17]
theorem ok_In (l:List Str)(s:Str):CallOK prog 205 [strsV l,strV s] (boolV (decide (s∈l))):=by
 refine CallB.bd (Enters.of func205 rfl (by decide)) fun hbd=>?_
 have hl:=(strs_ok hbd.1).1
 refine cB func205 ?_
 refine sR q8r ?_
 refine sK fun K1 u1=>?_
 have fin:∀ sl bx,¬ s∈l→K1 sl bx:=by
  intro sl bx h1
  refine u1 _ _ (AWp.weaken (sl':=[]) (bx':=[]) trivial trivial ?_)
  clear u1 K1
  refine sR q8r ?_
  rw [decide_eq_false h1]
  exact aR
 refine sR q8r ?_
 refine AWp.block (AWp.loop (X:=Nat) (fun x=>[(5,intV x),(0,strsV l),(1,strV s)]) (fun _=>[])
  (fun x=>x≤l.length∧(s∈l↔s∈l.drop x)) (fun x=>l.length - x) 0 ?_ ?_ ?_ ?_)
 ·exact⟨by simp,by simp⟩
 ·exact sS
 ·exact (by simp [ble,bget,exC,tyC,foC,paC,siC,deC,prC])
 rintro j ⟨hj,heq⟩
 by_cases hlt:(j:Int) < (l.length:Int)
 ·have hlt':j < l.length:=by omega
  have hy:l[j]? = some l[j]:=List.getElem?_eq_getElem hlt'
  have hmem:l[j]∈l:=List.getElem_mem hlt'
  have dp:l.drop j=l[j]::l.drop (j+1):=List.drop_eq_getElem_cons hlt'
  generalize l[j]=y at *
  rw [dp,List.mem_cons] at heq
  refine kR1 hlt q8r fun K2 u2=>?_
  refine AWp.condT rfl (AWp.skip (u2 _ _ ?_))
  clear u2 K2
  refine sK fun K2 u2=>?_
  refine AWp.block ?_
  by_cases hn:y=s
  ·(refine sQ q8r fun K hK=>?_;refine ev2 hlt hn ?_)
   refine⟨by omega,_,strR_get hy,rfl,?_⟩
   refine ev2 hlt hn ?_
   (apply hK;clear hK K)
   refine AWp.condT rfl ?_
   refine sR q8r ?_
   rw [decide_eq_true (heq.2 (.inl hn.symm))]
   exact aR
  ·(refine sQ q8r fun K hK=>?_;refine ev2 hlt hn ?_)
   refine⟨by omega,_,strR_get hy,rfl,?_⟩
   refine ev2 hlt hn ?_
   (apply hK;clear hK K)
   refine AWp.condF rfl (AWp.skip ?_)
   simp only [thenA,blockA,if_true]
   refine u2 _ _ ?_
   clear u2 K2
   (refine lQ q8r fun K hK=>?_;refine ev ?_)
   refine⟨by unfold InR;unfold lim at *;omega,?_⟩
   (apply hK;clear hK K;try simp only [thenA,blockA,if_true])
   exact⟨j+1,⟨by omega,by rw [heq];exact⟨fun h=>h.resolve_left (fun h=>hn h.symm),.inr⟩⟩,by omega,by simp [sle,vle,sget],(by simp [ble,bget,exC,tyC,foC,paC,siC,deC,prC])⟩
 ·refine kR1 hlt q8r fun K2 u2=>?_
  refine AWp.condF rfl (AWp.exit ?_)
  simp only [thenA,blockA,if_true]
  rw [List.drop_eq_nil_of_le (by omega)] at heq
  exact fin _ _ (by rw [heq];simp)
def cmpS:Str→Str→Int
 | [],[]=>0
 | [],_::_=>-1
 | _::_,[]=>1
 | x::xs,y::ys=>if x < y then -1 else if y < x then 1 else cmpS xs ys
abbrev q9r:List Nat:=[0,1,4,5,15,24,31,36,41]
theorem ok_Compare (a b:Str):CallOK prog 99 [strV a,strV b] (intV (cmpS a b)):=by
 refine CallB.bd (Enters.of func99 rfl (by decide)) fun hbd=>?_
 have hla:=str_bd hbd.1
 have hlb:=str_bd hbd.2.1
 refine cB func99 ?_
 refine sR q9r ?_
 refine sK fun K1 u1=>?_
 have fin:∀ sl bx,sle sl [(0,strV a),(1,strV b)]→(cmpS a b=if (a.length:Int) < b.length then -1 else if (b.length:Int) < a.length then 1 else 0)→K1 sl bx:=by
  intro sl bx hsl hc
  refine u1 _ _ (AWp.weaken (bx':=[]) hsl trivial ?_)
  clear u1 K1
  refine sK fun K1 u1=>?_
  by_cases h1:(a.length:Int) < b.length
  ·refine sR1 h1 q9r ?_
   refine AWp.condT rfl ?_
   refine sR q9r ?_
   rw [hc,if_pos h1]
   exact aR
  ·refine sR1 h1 q9r ?_
   refine AWp.condF rfl (AWp.skip (u1 _ _ ?_))
   clear u1 K1
   refine sK fun K1 u1=>?_
   by_cases h2:(b.length:Int) < a.length
   ·refine sR1 h2 q9r ?_
    refine AWp.condT rfl ?_
    refine sR q9r ?_
    rw [hc,if_neg h1,if_pos h2]
    exact aR
   ·refine sR1 h2 q9r ?_
    refine AWp.condF rfl (AWp.skip (u1 _ _ ?_))
    clear u1 K1
    refine sR q9r ?_
    rw [hc,if_neg h1,if_neg h2]
    exact aR
 refine sR q9r ?_
 refine AWp.block (AWp.loop (X:=Nat) (fun x=>[(5,intV x),(0,strV a),(1,strV b)]) (fun _=>[])
  (fun x=>x≤a.length∧x≤b.length∧cmpS (a.drop x) (b.drop x)=cmpS a b) (fun x=>a.length - x) 0 ?_ ?_ ?_ ?_)
 ·exact⟨by simp,by simp,rfl⟩
 ·exact sS
 ·exact (by simp [ble,bget,exC,tyC,foC,paC,siC,deC,prC])
 rintro j ⟨hj,hj2,heq⟩
 by_cases hlt:(j:Int) < (a.length:Int)
 ·by_cases hlt2:(j:Int) < (b.length:Int)
  ·have hlt':j < a.length:=by omega
   have hlt2':j < b.length:=by omega
   have hx:a[j]? = some a[j]:=List.getElem?_eq_getElem hlt'
   have hy:b[j]? = some b[j]:=List.getElem?_eq_getElem hlt2'
   rw [List.drop_eq_getElem_cons hlt',List.drop_eq_getElem_cons hlt2',cmpS] at heq
   generalize a[j]=x at *
   generalize b[j]=y at *
   refine kR2 hlt hlt2 q9r fun K2 u2=>?_
   refine AWp.condT rfl (AWp.skip (u2 _ _ ?_))
   clear u2 K2
   refine sK fun K2 u2=>?_
   refine AWp.block ?_
   refine sK fun K3 u3=>?_
   (refine sG q9r [] 6 [] fun K hK=>?_;refine ev2 hlt hlt2 ?_)
   refine⟨by omega,x,hx,by omega,y,hy,?_⟩
   (apply hK;clear hK K)
   have e1:∀ u v:UInt8,(u.toNat:Int) < v.toNat↔u < v:=fun u v=>by rw [UInt8.lt_iff_toNat_lt];omega
   simp only [e1]
   by_cases hxy:x < y
   ·rw [if_pos hxy] at heq
    refine AWp.condT (by simp [opnd,sget,hxy]) ?_
    refine sR q9r ?_
    rw [← heq]
    exact aR
   ·rw [if_neg hxy] at heq
    refine AWp.condF (by simp [opnd,sget,hxy]) (AWp.skip ?_)
    simp only [thenA,blockA,if_true]
    refine u3 _ _ ?_
    clear u3 K3
    (refine sG q9r [] 6 [] fun K hK=>?_;refine ev2 hlt hlt2 ?_)
    refine⟨by omega,x,hx,by omega,y,hy,?_⟩
    (apply hK;clear hK K)
    simp only [gt_iff_lt,e1]
    by_cases hyx:y < x
    ·rw [if_pos hyx] at heq
     refine AWp.condT (by simp [opnd,sget,hyx]) ?_
     refine sR q9r ?_
     rw [← heq]
     exact aR
    ·rw [if_neg hyx] at heq
     refine AWp.condF (by simp [opnd,sget,hyx]) (AWp.skip ?_)
     simp only [thenA,blockA,if_true]
     refine u2 _ _ ?_
     clear u2 K2
     (refine lQ q9r fun K hK=>?_;refine ev ?_)
     refine⟨by unfold InR;unfold lim at *;omega,?_⟩
     (apply hK;clear hK K;try simp only [thenA,blockA,if_true])
     exact⟨j+1,⟨by omega,by omega,heq⟩,by omega,by simp [sle,vle,sget],(by simp [ble,bget,exC,tyC,foC,paC,siC,deC,prC])⟩
  ·refine kR2 hlt hlt2 q9r fun K2 u2=>?_
   refine AWp.condF rfl (AWp.exit ?_)
   simp only [thenA,blockA,if_true]
   have hd:b.drop j=[]:=List.drop_eq_nil_of_le (by omega)
   rw [hd,List.drop_eq_getElem_cons (show j < a.length by omega),cmpS] at heq
   exact fin _ _ sS (by rw [← heq,if_neg (by omega),if_pos (by omega)])
 ·refine kR1 hlt q9r fun K2 u2=>?_
  refine AWp.condF rfl (AWp.exit ?_)
  simp only [thenA,blockA,if_true]
  have hd:a.drop j=[]:=List.drop_eq_nil_of_le (by omega)
  rw [hd] at heq
  refine fin _ _ sS ?_
  rw [← heq]
  by_cases hb:j < b.length
  ·rw [List.drop_eq_getElem_cons hb,cmpS,if_pos (by omega)]
  ·rw [List.drop_eq_nil_of_le (by omega),cmpS,if_neg (by omega),if_neg (by omega)]
def ins (s:Str):List Str→List Str
 | []=>[s]
 | x::xs=>if cmpS s x < 0 then s::x::xs else x::ins s xs
def putS (l:List Str)(s:Str):List Str:=if s∈l then l else ins s l
theorem ins_len (s:Str):∀ l,(ins s l).length=l.length+1
 | []=>rfl
 | x::xs=>by simp only [ins];split <;> simp [ins_len s xs]
abbrev q10r:List Nat:=[0,1,4,5,6,7,10,15,28,41]
theorem ok_Put (l:List Str)(s:Str)(hlen:l.length≤1000000):CallOK prog 317 [strsV l,strV s] (strsV (putS l s)):=by
 refine cB func317 ?_
 refine sR q10r ?_
 refine kC (ok_In l s) q10r fun K1 u1=>?_
 by_cases hin:s∈l
 ·refine AWp.condT (by simp [opnd,sget,hin]) ?_
  refine sR q10r ?_
  rw [putS,if_pos hin]
  exact aR
 refine AWp.condF (by simp [opnd,sget,hin]) (AWp.skip (u1 _ _ ?_))
 clear u1 K1
 refine sR q10r ?_
 refine sR q10r ?_
 refine AWp.promote 5 1 5 rfl ?_
 refine sK fun K1 u1=>?_
 have fin:∀ sl bx (b:Bool) r,sle sl [(1,strV s),(5,.acc 5),(6,boolV b)]→ble bx [(5,.rows 1 (strR r))]→r.length≤l.length+1→(if b then r else r++[s])=ins s l→K1 sl bx:=by
  intro sl bx b r h1 h2 hr hb
  refine u1 _ _ (AWp.weaken h1 h2 ?_)
  clear u1 K1 h1 h2
  refine kR q10r fun K1 u1=>?_
  cases b with
  | true =>
   refine AWp.condF rfl (AWp.skip (u1 _ _ ?_))
   clear u1 K1
   refine sR q10r ?_
   simp only [if_true] at hb
   rw [putS,if_neg hin,← hb]
   exact aR
  | false =>
   refine AWp.condT rfl ?_
   (refine lQ q10r fun K hK=>?_;refine ev ?_)
   refine⟨by simp,by unfold lim;omega,?_⟩
   (apply hK;clear hK K;try simp only [thenA,blockA,if_true])
   refine u1 _ _ ?_
   clear u1 K1
   refine sR q10r ?_
   have e:strR r++[[D.str s]]=strR (r++[s]):=by simp [strR]
   simp only [Bool.false_eq_true,if_false] at hb
   rw [putS,if_neg hin,← hb,e]
   exact aR
 refine sR q10r ?_
 refine AWp.block (AWp.loop (X:=Nat × Bool × List Str) (fun x=>[(7,intV x.1),(0,strsV l),(1,strV s),(5,.acc 5),(6,boolV x.2.1)]) (fun x=>[(5,.rows 1 (strR x.2.2))])
  (fun x=>x.1≤l.length∧x.2.2++(if x.2.1 then l.drop x.1 else ins s (l.drop x.1))=ins s l) (fun x=>l.length - x.1) (0,false,[]) ?_ ?_ ?_ ?_)
 ·exact⟨by simp,by simp⟩
 ·exact sS
 ·simp [ble,bget,strR]
 rintro⟨j,b,r⟩ ⟨hj,heq⟩
 simp only at hj heq
 have hrl:=congrArg List.length heq
 simp only [List.length_append,ins_len] at hrl
 have hr0:r.length=if b then j+1 else j:=by
  cases b
  ·simp only [Bool.false_eq_true,if_false,ins_len,List.length_drop] at hrl ⊢;omega
  ·simp only [if_true,List.length_drop] at hrl ⊢;omega
 clear hrl
 by_cases hlt:(j:Int) < (l.length:Int)
 ·have hlt':j < l.length:=by omega
  have hy:l[j]? = some l[j]:=List.getElem?_eq_getElem hlt'
  have dp:l.drop j=l[j]::l.drop (j+1):=List.drop_eq_getElem_cons hlt'
  generalize l[j]=y at *
  rw [dp] at heq
  refine kR1 hlt q10r fun K2 u2=>?_
  refine AWp.condT rfl (AWp.skip (u2 _ _ ?_))
  clear u2 K2
  refine sK fun K2 u2=>?_
  refine AWp.block ?_
  refine sK fun K3 u3=>?_
  have fin2:∀ sl bx (b':Bool) r',sle sl [(7,intV j),(0,strsV l),(1,strV s),(5,.acc 5),(6,boolV b')]→ble bx [(5,.rows 1 (strR r'))]→r'.length≤l.length→r'++y::(if b' then l.drop (j+1) else ins s (l.drop (j+1)))=ins s l→K3 sl bx:=by
   intro sl bx b' r' h1 h2 hr' h3
   refine u3 _ _ (AWp.weaken h1 h2 ?_)
   clear u3 K3 h1 h2
   (refine lQ q10r fun K hK=>?_;refine ev1 hlt ?_)
   refine⟨by omega,_,strR_get hy,rfl,?_⟩
   refine ev1 hlt ?_
   refine⟨by simp,by unfold lim;omega,?_⟩
   (apply hK;clear hK K;try simp only [thenA,blockA,if_true])
   refine u2 _ _ ?_
   clear u2 K2
   (refine lQ q10r fun K hK=>?_;refine ev ?_)
   refine⟨by unfold InR;omega,?_⟩
   (apply hK;clear hK K;try simp only [thenA,blockA,if_true])
   exact⟨(j+1,b',r'++[y]),⟨by simp only;omega,by simpa using h3⟩,by simp only;omega,by simp [sle,vle,sget],by simp [ble,bget,strR]⟩
  clear u3 u2
  cases b with
  | true =>
   simp only [if_true] at heq hr0
   refine sR1 hlt q10r ?_
   refine AWp.condF rfl (AWp.skip ?_)
   simp only [thenA,blockA,if_true]
   exact fin2 _ _ true r sS (by simp [ble,bget,exC,tyC,foC,paC,siC,deC,prC]) (by omega) heq
  | false =>
   simp only [Bool.false_eq_true,if_false,ins] at heq hr0
   (refine sQ q10r fun K hK=>?_;refine ev1 hlt ?_)
   refine⟨by omega,_,strR_get hy,rfl,?_⟩
   refine ev1 hlt ?_
   refine⟨intV (cmpS s y),.inl ⟨_,rfl,ok_Compare s y,rfl⟩,?_⟩
   refine ev1 hlt ?_
   (apply hK;clear hK K)
   by_cases hc:cmpS s y < 0
   ·rw [if_pos hc] at heq
    refine AWp.condT (by simp [opnd,sget,hc]) ?_
    have hr2:r.length≤l.length:=by omega
    have e:strR r++[[D.str s]]=strR (r++[s]):=by simp [strR]
    (refine sQ q10r fun K hK=>?_;refine ev ?_)
    refine⟨by simp,by unfold lim;omega,?_⟩
    rw [e]
    (apply hK;clear hK K)
    (refine lV q10r fun K z=>?_;apply z;clear z K;try simp only [thenA,blockA,if_true])
    exact fin2 _ _ true (r++[s]) sS (by simp [ble,bget,exC,tyC,foC,paC,siC,deC,prC]) (by simp only [List.length_append,List.length_cons,List.length_nil];omega) (by simpa using heq)
   ·rw [if_neg hc] at heq
    refine AWp.condF (by simp [opnd,sget,hc]) (AWp.skip ?_)
    simp only [thenA,blockA,if_true]
    exact fin2 _ _ false r sS (by simp [ble,bget,exC,tyC,foC,paC,siC,deC,prC]) (by omega) (by simpa using heq)
 ·refine kR1 hlt q10r fun K2 u2=>?_
  refine AWp.condF rfl (AWp.exit ?_)
  simp only [thenA,blockA,if_true]
  rw [List.drop_eq_nil_of_le (by omega)] at heq
  exact fin _ _ b r sS (by simp [ble,bget,exC,tyC,foC,paC,siC,deC,prC]) (by cases b <;> simp only [if_true,Bool.false_eq_true,if_false] at hr0 <;> omega) (by rw [← heq];cases b <;> simp [ins])
end Go.Abs
