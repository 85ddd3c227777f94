/- several texts in one -/
import Derived.Test.YtenheogknlmohaaGreatDoorYEnc
import Derived.Test.YtenheogknlmohaaGreatDoorYEV
import Derived.Test.YtenheogknlmohaaGreatDoorYTypes
namespace Go.Abs
set_option linter.unusedSimpArgs false
set_option linter.unusedVariables false
open Go Go.Proofs
mutual
def Ty.count:Ty→Int→Int
 | .mk n a _,k=>Ty.countL a (k+1+((n.length / 50:Nat):Int))
def Ty.countL:List Ty→Int→Int
 | [],k=>k
 | t::ts,k=>if k≤2000 then Ty.countL ts (t.count k) else k
end
theorem Ty.count_eq (t:Ty)(k:Int):t.count k=Ty.countL t.args (k+1+((t.name.length / 50:Nat):Int)):=by cases t;rfl
def cap:Int:=4611686018427387904
mutual
theorem Ty.count_bd:∀ (t:Ty)(k:Int),t.Ok→k≤t.count k∧t.count k≤max k 2000+2814749767107
 | .mk n a p,k,h=>by
  have hn:n.length≤lim:=h.name
  have:=Ty.countL_bd a (k+1+((n.length / 50:Nat):Int)) (fun t ht=>h.arg t ht)
  simp only [Ty.count]
  unfold lim at hn
  omega
theorem Ty.countL_bd:∀ (l:List Ty)(k:Int),(∀ t,t∈l→t.Ok)→k≤Ty.countL l k∧Ty.countL l k≤max k (2000+2814749767107)
 | [],k,_=>by simp only [Ty.countL];omega
 | t::ts,k,h=>by
  simp only [Ty.countL]
  split
  ·have h1:=Ty.count_bd t k (h t (by simp))
   have h2:=Ty.countL_bd ts (t.count k) (fun u hu=>h u (by simp [hu]))
   omega
  ·omega
end
set_option maxHeartbeats 1000000 in
theorem ok_Count04:∀ (t:Ty)(n:Int),0≤n→n≤cap→CallOK Tryz.prog 53 [tyV t,intV n] (intV (t.count n)):=by
 intro t
 induction t using Ty.induct with
 | h t ih =>
 intro n h0 h1
 refine CallB.bd (Enters.of Tryz.func53 rfl (by decide)) fun hbd=>?_
 have hok:=ty_ok hbd.1
 have hname:=hok.name
 have hlen:=hok.len
 have hq:t.name.length / 50≤2814749767106:=by unfold lim at hname;omega
 (refine CallOK.of_body Tryz.func53 rfl (by decide) (by rw [Tryz.ntmps53];simp) ?_;rw [Tryz.ntmps53])
 (refine AWp.seqR [0,1,2,4,5,21] [] (by decide +kernel) fun K hK=>?_;simp -implicitDefEqProofs only [EV,Nat.reduceAdd,Nat.reduceEqDiff,Nat.reduceLeDiff,reduceCtorEq,];refine hK _ _ ?_;clear hK K)
 (refine AWp.seqR [0,1,2,4,5,21] [] (by decide +kernel) fun K hK=>?_;simp -implicitDefEqProofs only [EV,Nat.reduceEqDiff,Int.reduceEq,reduceCtorEq,TF9,TF25])
 refine⟨by unfold InR cap at *;omega,(by first | (unfold InR;omega) | (simp only [InR,sm,lim] at *;omega)),by unfold InR cap at *;omega,?_⟩
 (refine hK _ _ ?_;clear hK K)
 refine AWp.seqK fun K1 hK1=>?_
 (refine AWp.seqR [0,1,2,4,5,21] [] (by decide +kernel) fun K hK=>?_;simp -implicitDefEqProofs only [EV,Nat.reduceEqDiff,reduceCtorEq,];refine hK _ _ ?_;clear hK K)
 refine AWp.block (AWp.loop (X:=Nat × Int) (fun x=>[(1,intV x.2),(2,.box 2 0),(5,intV x.1)]) (fun _=>[(2,.cells [.d (.str t.name),.d (.slice (tyR t.args)),.d (.int .i64 t.pos)])])
  (fun x=>x.1≤t.args.length∧0≤x.2∧x.2≤cap+2814749769108∧Ty.countL (t.args.drop x.1) x.2=t.count n) (fun x=>t.args.length - x.1) (0,n+1+((t.name.length / 50:Nat):Int)) ?_ ?_ ?_ ?_)
 ·exact⟨by simp,by omega,by unfold cap at *;omega,by rw [Ty.count_eq];rfl⟩
 ·simp [sle,vle,sget]
 ·simp [ble,bget]
 rintro⟨i,m⟩ ⟨hi,hm0,hm1,heq⟩
 simp only at hi hm0 hm1 heq
 have fin:∀ z:Int,z=t.count n→K1 [(0,.undef),(1,intV z),(2,.box 2 0),(4,.undef),(5,intV i),(21,boolV false)] [(2,.cells [.d (.str t.name),.d (.slice (tyR t.args)),.d (.int .i64 t.pos)])]:=by
  rintro z rfl
  refine hK1 _ _ ?_
  (refine AWp.seqR [0,1,2,4,5,21] [] (by decide +kernel) fun K hK=>?_;simp -implicitDefEqProofs only [EV,Nat.reduceEqDiff,reduceCtorEq,];refine hK _ _ ?_;clear hK K)
  exact AWp.ret ⟨_,by rw [Tryz.results53];rfl,rfl⟩
 by_cases hlt:(i:Int) < (t.args.length:Int)
 ·have hlt':i < t.args.length:=by omega
  have hx:t.args[i]? = some t.args[i]:=List.getElem?_eq_getElem hlt'
  have hmem:t.args[i]∈t.args:=List.getElem_mem hlt'
  have hdrop:t.args.drop i=t.args[i]::t.args.drop (i+1):=List.drop_eq_getElem_cons hlt'
  generalize t.args[i]=x at *
  rw [hdrop,Ty.countL] at heq
  refine AWp.seqK fun K2 hK2=>?_
  by_cases hm:m≤2000
  ·rw [if_pos hm] at heq
   (refine AWp.seqR [0,1,2,4,5,21] [] (by decide +kernel) fun K hK=>?_;simp -implicitDefEqProofs only [EV,Nat.reduceEqDiff,reduceCtorEq,TF23,TF25,hlt,hm];refine hK _ _ ?_;clear hK K)
   refine AWp.condT rfl (AWp.skip (hK2 _ _ ?_))
   clear hK2 K2
   refine AWp.seqK fun K2 hK2=>?_
   refine AWp.block ?_
   (refine AWp.lastR [0,1,2,4,5,21] [] (by decide +kernel) fun K hK=>?_;simp -implicitDefEqProofs only [EV,Nat.reduceEqDiff,reduceCtorEq,TF23,TF25,])
   refine⟨by omega,tyC x,tyR_get hx,rfl,?_⟩
   simp -implicitDefEqProofs only [EV,Nat.reduceAdd,Nat.reduceEqDiff,reduceCtorEq,tyC]
   refine⟨intV (x.count m),.inl ⟨_,rfl,ih x hmem m hm0 (by unfold cap;omega),rfl⟩,?_⟩
   simp -implicitDefEqProofs only [EV,]
   (refine hK _ _ ?_;clear hK K;try simp only [thenA,blockA])
   refine hK2 _ _ ?_
   clear hK2 K2
   (refine AWp.lastR [0,1,2,4,5,21] [] (by decide +kernel) fun K hK=>?_;simp -implicitDefEqProofs only [EV,Nat.reduceEqDiff,reduceCtorEq,])
   refine⟨by unfold InR;unfold lim at hlen;omega,?_⟩
   (refine hK _ _ ?_;clear hK K;try simp only [thenA,])
   have hb:=Ty.count_bd x m (hok.arg x hmem)
   exact⟨(i+1,x.count m),⟨by simp only;omega,by simp only;omega,by simp only;unfold cap;omega,heq⟩,by simp only;omega,by simp [sle,vle,sget],by simp [ble,bget]⟩
  ·rw [if_neg hm] at heq
   (refine AWp.seqR [0,1,2,4,5,21] [] (by decide +kernel) fun K hK=>?_;simp -implicitDefEqProofs only [EV,Nat.reduceEqDiff,reduceCtorEq,TF23,TF25,hlt,hm];refine hK _ _ ?_;clear hK K)
   refine AWp.condF rfl (AWp.exit ?_)
   simp only [thenA,blockA,if_true]
   exact fin m heq
 ·refine AWp.seqK fun K2 hK2=>?_
  (refine AWp.seqR [0,1,2,4,5,21] [] (by decide +kernel) fun K hK=>?_;simp -implicitDefEqProofs only [EV,Nat.reduceEqDiff,reduceCtorEq,TF23,TF25,hlt];refine hK _ _ ?_;clear hK K)
  refine AWp.condF rfl (AWp.exit ?_)
  simp only [thenA,blockA,if_true]
  rw [List.drop_eq_nil_of_le (by omega),Ty.countL] at heq
  exact fin m heq
end Go.Abs
namespace Go.Abs
set_option linter.unusedSimpArgs false
set_option linter.unusedVariables false
open Go Go.Proofs
theorem div50_le {n:Nat} (h:n≤lim):n / 50≤2814749767106:=by unfold lim at h;omega
mutual
def Ex.count:Ex→Int→Int
 | .mk _ nm t ta ks _,n=>Ex.countL ks (Ty.countL ta (t.count (n+((nm.length / 50:Nat):Int))))
def Ex.countL:List Ex→Int→Int
 | [],n=>n
 | e::es,n=>if n≤2000 then Ex.countL es (e.count n) else n
end
theorem Ex.count_eq (e:Ex)(n:Int):e.count n=Ex.countL e.kids (Ty.countL e.targs (e.type.count (n+((e.name.length / 50:Nat):Int)))):=by cases e;rfl
mutual
theorem Ex.count_bd:∀ (e:Ex)(n:Int),e.Ok→n≤e.count n∧e.count n≤max n 2000+6000000000000
 | .mk k nm t ta ks p,n,h=>by
  have h1:=div50_le h.name
  have h2:=Ty.count_bd t (n+((nm.length / 50:Nat):Int)) h.type
  have h3:=Ty.countL_bd ta (t.count (n+((nm.length / 50:Nat):Int))) h.targs.2
  have h4:=Ex.countL_bd ks (Ty.countL ta (t.count (n+((nm.length / 50:Nat):Int)))) h.kids.2
  have h1':((nm.length / 50:Nat):Int)≤2814749767106:=by simp only [Ex.name] at h1;omega
  simp only [Ex.count]
  have h0:0≤((nm.length / 50:Nat):Int):=by omega
  generalize ((nm.length / 50:Nat):Int)=q at *
  omega
theorem Ex.countL_bd:∀ (l:List Ex)(n:Int),(∀ t,t∈l→t.Ok)→n≤Ex.countL l n∧Ex.countL l n≤max n (2000+6000000000000)
 | [],n,_=>by simp only [Ex.countL];omega
 | t::ts,n,h=>by
  simp only [Ex.countL]
  split
  ·have h1:=Ex.count_bd t n (h t (by simp))
   have h2:=Ex.countL_bd ts (t.count n) (fun u hu=>h u (by simp [hu]))
   omega
  ·omega
end
set_option maxRecDepth 100000 in
set_option maxHeartbeats 1000000 in
theorem ok_Count05:∀ (e:Ex)(n:Int),0≤n→n≤cap - 100000000000000→CallOK Tryz.prog 16 [exV e,intV n] (intV (e.count n)):=by
 intro e
 induction e using Ex.induct with
 | h e ih =>
 intro n h0 h1
 refine CallB.bd (Enters.of Tryz.func16 rfl (by decide)) fun hbd=>?_
 have hok:=ex_ok hbd.1
 have hq:=div50_le hok.name
 have ht:=Ty.count_bd e.type (n+((e.name.length / 50:Nat):Int)) hok.type
 have ht2:=Ty.countL_bd e.targs (e.type.count (n+((e.name.length / 50:Nat):Int))) hok.targs.2
 have hl1:=hok.targs.1
 have hl2:=hok.kids.1
 have heqn:=Ex.count_eq e n
 (refine CallOK.of_body Tryz.func16 rfl (by decide) (by rw [Tryz.ntmps16];simp) ?_;rw [Tryz.ntmps16])
 (refine AWp.seqR [0,1,2,4,5,6,24,42] [] (by decide +kernel) fun K hK=>?_;simp -implicitDefEqProofs only [EV,Nat.reduceAdd,Nat.reduceEqDiff,Nat.reduceLeDiff,reduceCtorEq,];refine hK _ _ ?_;clear hK K)
 (refine AWp.seqR [0,1,2,4,5,6,24,42] [] (by decide +kernel) fun K hK=>?_;simp -implicitDefEqProofs only [EV,Nat.reduceAdd,Nat.reduceEqDiff,Nat.reduceLeDiff,Int.reduceEq,reduceCtorEq,TF9,TF25,TF28])
 refine⟨(by first | (unfold InR;omega) | (simp only [InR,sm,lim] at *;omega)),by unfold InR cap at *;omega,intV (e.type.count (n+((e.name.length / 50:Nat):Int))),.inl ⟨_,rfl,ok_Count04 e.type _ (by omega) (by unfold cap at *;omega),rfl⟩,?_⟩
 simp -implicitDefEqProofs only [EV,]
 (refine hK _ _ ?_;clear hK K)
 generalize e.type.count (n+((e.name.length / 50:Nat):Int))=n1 at *
 refine AWp.seqK fun K1 hK1=>?_
 have fin:∀ sl bx,sle sl [(1,intV (Ty.countL e.targs n1)),(2,.box 2 0)]→ble bx [(2,.cells ((exC e).map .d))]→K1 sl bx:=by
  intro sl bx h1 h2
  refine hK1 _ _ (AWp.weaken h1 h2 ?_)
  clear hK1 K1
  generalize Ty.countL e.targs n1=n2 at *
  refine AWp.seqK fun K1 hK1=>?_
  (refine AWp.seqR [0,1,2,4,5,6,24,42] [] (by decide +kernel) fun K hK=>?_;simp -implicitDefEqProofs only [EV,Nat.reduceEqDiff,reduceCtorEq,];refine hK _ _ ?_;clear hK K)
  have fin:∀ sl bx,sle sl [(1,intV (Ex.countL e.kids n2))]→ble bx []→K1 sl bx:=by
   intro sl bx h1 h2
   refine hK1 _ _ (AWp.weaken h1 h2 ?_)
   (refine AWp.seqR [0,1,2,4,5,6,24,42] [] (by decide +kernel) fun K hK=>?_;simp -implicitDefEqProofs only [EV,Nat.reduceEqDiff,reduceCtorEq,];refine hK _ _ ?_;clear hK K)
   rw [heqn]
   exact AWp.ret ⟨_,by rw [Tryz.results16];rfl,rfl⟩
  refine AWp.block (AWp.loop (X:=Nat × Int) (fun x=>[(1,intV x.2),(6,intV x.1),(2,.box 2 0)]) (fun _=>[(2,.cells ((exC e).map .d))])
   (fun x=>x.1≤e.kids.length∧0≤x.2∧x.2≤cap+100000000000000∧Ex.countL (e.kids.drop x.1) x.2=Ex.countL e.kids n2) (fun x=>e.kids.length - x.1) (0,n2) ?_ ?_ ?_ ?_)
  ·exact⟨by simp,by omega,by unfold cap at *;omega,by first | rfl | simp⟩
  ·simp [sle,vle,sget]
  ·exact (by simp [ble,bget,exC,])
  rintro⟨i,m⟩ ⟨hi,hm0,hm1,heq⟩
  simp only at hi hm0 hm1 heq
  by_cases hlt:(i:Int) < (e.kids.length:Int)
  ·have hlt':i < e.kids.length:=by omega
   have hx:e.kids[i]? = some e.kids[i]:=List.getElem?_eq_getElem hlt'
   have hmem:e.kids[i]∈e.kids:=List.getElem_mem hlt'
   have hdrop:e.kids.drop i=e.kids[i]::e.kids.drop (i+1):=List.drop_eq_getElem_cons hlt'
   generalize e.kids[i]=x at *
   rw [hdrop,Ex.countL] at heq
   refine AWp.seqK fun K2 hK2=>?_
   by_cases hm:m≤2000
   ·rw [if_pos hm] at heq
    (refine AWp.seqR [0,1,2,4,5,6,24,42] [] (by decide +kernel) fun K hK=>?_;simp -implicitDefEqProofs only [EV,Nat.reduceEqDiff,reduceCtorEq,TF26,TF28,hlt,hm];refine hK _ _ ?_;clear hK K)
    refine AWp.condT rfl (AWp.skip (hK2 _ _ ?_))
    clear hK2 K2
    refine AWp.seqK fun K2 hK2=>?_
    refine AWp.block ?_
    (refine AWp.lastR [0,1,2,4,5,6,24,42] [] (by decide +kernel) fun K hK=>?_;simp -implicitDefEqProofs only [EV,Nat.reduceEqDiff,reduceCtorEq,TF26,TF28])
    (refine⟨by omega,exC x,exR_get hx,rfl,?_⟩;simp -implicitDefEqProofs only [EV,Nat.reduceAdd,Nat.reduceEqDiff,reduceCtorEq,];refine⟨intV (x.count m),.inl ⟨_,rfl,ih x hmem m hm0 (by unfold cap;omega),rfl⟩,?_⟩;simp -implicitDefEqProofs only [EV,])
    (refine hK _ _ ?_;clear hK K;try simp only [thenA,blockA])
    refine hK2 _ _ ?_
    clear hK2 K2
    (refine AWp.lastR [0,1,2,4,5,6,24,42] [] (by decide +kernel) fun K hK=>?_;simp -implicitDefEqProofs only [EV,Nat.reduceEqDiff,reduceCtorEq,])
    refine⟨by unfold InR;unfold lim at *;omega,?_⟩
    (refine hK _ _ ?_;clear hK K;try simp only [thenA,])
    have hb:=Ex.count_bd x m (hok.kids.2 x hmem)
    exact⟨(i+1,x.count m),⟨by simp only;omega,by simp only;omega,by simp only;unfold cap;omega,heq⟩,by simp only;omega,by simp [sle,vle,sget],(by simp [ble,bget,exC,])⟩
   ·rw [if_neg hm] at heq
    (refine AWp.seqR [0,1,2,4,5,6,24,42] [] (by decide +kernel) fun K hK=>?_;simp -implicitDefEqProofs only [EV,Nat.reduceEqDiff,reduceCtorEq,TF26,TF28,hlt,hm];refine hK _ _ ?_;clear hK K)
    refine AWp.condF rfl (AWp.exit ?_)
    simp only [thenA,blockA,if_true]
    exact fin _ _ (by simp [sle,vle,sget,heq]) (by simp [ble,])
  ·refine AWp.seqK fun K2 hK2=>?_
   (refine AWp.seqR [0,1,2,4,5,6,24,42] [] (by decide +kernel) fun K hK=>?_;simp -implicitDefEqProofs only [EV,Nat.reduceEqDiff,reduceCtorEq,TF26,TF28,hlt];refine hK _ _ ?_;clear hK K)
   refine AWp.condF rfl (AWp.exit ?_)
   simp only [thenA,blockA,if_true]
   rw [List.drop_eq_nil_of_le (by omega),Ex.countL] at heq
   exact fin _ _ (by simp [sle,vle,sget,heq]) (by simp [ble,])
 (refine AWp.seqR [0,1,2,4,5,6,24,42] [] (by decide +kernel) fun K hK=>?_;simp -implicitDefEqProofs only [EV,Nat.reduceEqDiff,reduceCtorEq,];refine hK _ _ ?_;clear hK K)
 refine AWp.block (AWp.loop (X:=Nat × Int) (fun x=>[(1,intV x.2),(5,intV x.1),(2,.box 2 0)]) (fun _=>[(2,.cells ((exC e).map .d))])
  (fun x=>x.1≤e.targs.length∧0≤x.2∧x.2≤cap+100000000000000∧Ty.countL (e.targs.drop x.1) x.2=Ty.countL e.targs n1) (fun x=>e.targs.length - x.1) (0,n1) ?_ ?_ ?_ ?_)
 ·exact⟨by simp,by omega,by unfold cap at *;omega,by first | rfl | simp⟩
 ·simp [sle,vle,sget]
 ·exact (by simp [ble,bget,exC,])
 rintro⟨i,m⟩ ⟨hi,hm0,hm1,heq⟩
 simp only at hi hm0 hm1 heq
 by_cases hlt:(i:Int) < (e.targs.length:Int)
 ·have hlt':i < e.targs.length:=by omega
  have hx:e.targs[i]? = some e.targs[i]:=List.getElem?_eq_getElem hlt'
  have hmem:e.targs[i]∈e.targs:=List.getElem_mem hlt'
  have hdrop:e.targs.drop i=e.targs[i]::e.targs.drop (i+1):=List.drop_eq_getElem_cons hlt'
  generalize e.targs[i]=x at *
  rw [hdrop,Ty.countL] at heq
  refine AWp.seqK fun K2 hK2=>?_
  by_cases hm:m≤2000
  ·rw [if_pos hm] at heq
   (refine AWp.seqR [0,1,2,4,5,6,24,42] [] (by decide +kernel) fun K hK=>?_;simp -implicitDefEqProofs only [EV,Nat.reduceEqDiff,reduceCtorEq,TF23,TF28,hlt,hm];refine hK _ _ ?_;clear hK K)
   refine AWp.condT rfl (AWp.skip (hK2 _ _ ?_))
   clear hK2 K2
   refine AWp.seqK fun K2 hK2=>?_
   refine AWp.block ?_
   (refine AWp.lastR [0,1,2,4,5,6,24,42] [] (by decide +kernel) fun K hK=>?_;simp -implicitDefEqProofs only [EV,Nat.reduceEqDiff,reduceCtorEq,TF23,TF25,TF28])
   (refine⟨by omega,tyC x,tyR_get hx,rfl,?_⟩;simp -implicitDefEqProofs only [EV,Nat.reduceAdd,Nat.reduceEqDiff,reduceCtorEq,];refine⟨intV (x.count m),.inl ⟨_,rfl,ok_Count04 x m hm0 (by unfold cap;omega),rfl⟩,?_⟩;simp -implicitDefEqProofs only [EV,])
   (refine hK _ _ ?_;clear hK K;try simp only [thenA,blockA])
   refine hK2 _ _ ?_
   clear hK2 K2
   (refine AWp.lastR [0,1,2,4,5,6,24,42] [] (by decide +kernel) fun K hK=>?_;simp -implicitDefEqProofs only [EV,Nat.reduceEqDiff,reduceCtorEq,])
   refine⟨by unfold InR;unfold lim at *;omega,?_⟩
   (refine hK _ _ ?_;clear hK K;try simp only [thenA,])
   have hb:=Ty.count_bd x m (hok.targs.2 x hmem)
   exact⟨(i+1,x.count m),⟨by simp only;omega,by simp only;omega,by simp only;unfold cap;omega,heq⟩,by simp only;omega,by simp [sle,vle,sget],(by simp [ble,bget,exC,])⟩
  ·rw [if_neg hm] at heq
   (refine AWp.seqR [0,1,2,4,5,6,24,42] [] (by decide +kernel) fun K hK=>?_;simp -implicitDefEqProofs only [EV,Nat.reduceEqDiff,reduceCtorEq,TF23,TF28,hlt,hm];refine hK _ _ ?_;clear hK K)
   refine AWp.condF rfl (AWp.exit ?_)
   simp only [thenA,blockA,if_true]
   exact fin _ _ (by simp [sle,vle,sget,heq]) (by simp [ble,bget,exC,])
 ·refine AWp.seqK fun K2 hK2=>?_
  (refine AWp.seqR [0,1,2,4,5,6,24,42] [] (by decide +kernel) fun K hK=>?_;simp -implicitDefEqProofs only [EV,Nat.reduceEqDiff,reduceCtorEq,TF23,TF28,hlt];refine hK _ _ ?_;clear hK K)
  refine AWp.condF rfl (AWp.exit ?_)
  simp only [thenA,blockA,if_true]
  rw [List.drop_eq_nil_of_le (by omega),Ty.countL] at heq
  exact fin _ _ (by simp [sle,vle,sget,heq]) (by simp [ble,bget,exC,])
def foCount:List Formal→Int→Int
 | [],n=>n
 | f::fs,n=>if n≤2000 then foCount fs (f.bound.count (n+1+((f.name.length / 50:Nat):Int))) else n
def paCount:List Param→Int→Int
 | [],n=>n
 | f::fs,n=>if n≤2000 then paCount fs (f.type.count (n+1+((f.name.length / 50:Nat):Int))) else n
theorem fo1_bd (f:Formal)(n:Int)(h:f.Ok):n≤f.bound.count (n+1+((f.name.length / 50:Nat):Int))∧f.bound.count (n+1+((f.name.length / 50:Nat):Int))≤max n 2000+6000000000000:=by
 have h1:=div50_le h.name
 have h2:=Ty.count_bd f.bound (n+1+((f.name.length / 50:Nat):Int)) h.bound
 omega
theorem pa1_bd (f:Param)(n:Int)(h:f.Ok):n≤f.type.count (n+1+((f.name.length / 50:Nat):Int))∧f.type.count (n+1+((f.name.length / 50:Nat):Int))≤max n 2000+6000000000000:=by
 have h1:=div50_le h.name
 have h2:=Ty.count_bd f.type (n+1+((f.name.length / 50:Nat):Int)) h.type
 omega
theorem foCount_bd:∀ (l:List Formal)(n:Int),(∀ t,t∈l→t.Ok)→n≤foCount l n∧foCount l n≤max n (2000+6000000000000)
 | [],n,_=>by simp only [foCount];omega
 | t::ts,n,h=>by
  simp only [foCount]
  split
  ·have h1:=fo1_bd t n (h t (by simp))
   have h2:=foCount_bd ts (t.bound.count (n+1+((t.name.length / 50:Nat):Int))) (fun u hu=>h u (by simp [hu]))
   omega
  ·omega
theorem paCount_bd:∀ (l:List Param)(n:Int),(∀ t,t∈l→t.Ok)→n≤paCount l n∧paCount l n≤max n (2000+6000000000000)
 | [],n,_=>by simp only [paCount];omega
 | t::ts,n,h=>by
  simp only [paCount]
  split
  ·have h1:=pa1_bd t n (h t (by simp))
   have h2:=paCount_bd ts (t.type.count (n+1+((t.name.length / 50:Nat):Int))) (fun u hu=>h u (by simp [hu]))
   omega
  ·omega
set_option maxRecDepth 100000 in
set_option maxHeartbeats 1000000 in
theorem ok_foCount (l:List Formal)(n:Int)(h0:0≤n)(h1:n≤cap - 100000000000000):CallOK Tryz.prog 93 [.d (.slice (foR l)),intV n] (intV (foCount l n)):=by
 refine CallB.bd (Enters.of Tryz.func93 rfl (by decide)) fun hbd=>?_
 have hok:=fos_ok hbd.1
 have hl:=hok.1
 (refine CallOK.of_body Tryz.func93 rfl (by decide) (by rw [Tryz.ntmps93];simp) ?_;rw [Tryz.ntmps93])
 (refine AWp.seqR [0,1,4,5,13] [] (by decide +kernel) fun K hK=>?_;simp -implicitDefEqProofs only [EV,Nat.reduceAdd,Nat.reduceEqDiff,reduceCtorEq,];refine hK _ _ ?_;clear hK K)
 refine AWp.seqK fun K1 hK1=>?_
 have fin:∀ sl bx,sle sl [(1,intV (foCount l n))]→ble bx []→K1 sl bx:=by
  intro sl bx h1 h2
  refine hK1 _ _ (AWp.weaken h1 h2 ?_)
  clear hK1 K1
  (refine AWp.seqR [0,1,4,5,13] [] (by decide +kernel) fun K hK=>?_;simp -implicitDefEqProofs only [EV,Nat.reduceEqDiff,reduceCtorEq,];refine hK _ _ ?_;clear hK K)
  exact AWp.ret ⟨_,by rw [Tryz.results93];rfl,rfl⟩
 (refine AWp.seqR [0,1,4,5,13] [] (by decide +kernel) fun K hK=>?_;simp -implicitDefEqProofs only [EV,Nat.reduceEqDiff,reduceCtorEq,];refine hK _ _ ?_;clear hK K)
 refine AWp.block (AWp.loop (X:=Nat × Int) (fun x=>[(1,intV x.2),(5,intV x.1),(0,.d (.slice (foR l)))]) (fun _=>[])
  (fun x=>x.1≤l.length∧0≤x.2∧x.2≤cap+100000000000000∧foCount (l.drop x.1) x.2=foCount l n) (fun x=>l.length - x.1) (0,n) ?_ ?_ ?_ ?_)
 ·exact⟨by simp,by omega,by unfold cap at *;omega,by first | rfl | simp⟩
 ·simp [sle,vle,sget]
 ·exact (by simp [ble,])
 rintro⟨i,m⟩ ⟨hi,hm0,hm1,heq⟩
 simp only at hi hm0 hm1 heq
 by_cases hlt:(i:Int) < (l.length:Int)
 ·have hlt':i < l.length:=by omega
  have hx:l[i]? = some l[i]:=List.getElem?_eq_getElem hlt'
  have hmem:l[i]∈l:=List.getElem_mem hlt'
  have hdrop:l.drop i=l[i]::l.drop (i+1):=List.drop_eq_getElem_cons hlt'
  generalize l[i]=x at *
  rw [hdrop,foCount] at heq
  refine AWp.seqK fun K2 hK2=>?_
  by_cases hm:m≤2000
  ·rw [if_pos hm] at heq
   (refine AWp.seqR [0,1,4,5,13] [] (by decide +kernel) fun K hK=>?_;simp -implicitDefEqProofs only [EV,Nat.reduceEqDiff,reduceCtorEq,TF46,hlt,hm];refine hK _ _ ?_;clear hK K)
   refine AWp.condT rfl (AWp.skip (hK2 _ _ ?_))
   clear hK2 K2
   refine AWp.seqK fun K2 hK2=>?_
   refine AWp.block ?_
   (refine AWp.lastD [0,1,4,5,13] [] 16 mixed (by decide +kernel) (by decide +kernel) fun K hK=>?_;simp -implicitDefEqProofs only [EV,Nat.reduceAdd,Nat.reduceEqDiff,reduceCtorEq,TF25,TF46,TF84])
   (have hq:=div50_le (hok.2 x hmem).name;refine⟨by omega,foC x,foR_get hx,rfl,?_⟩;simp -implicitDefEqProofs only [EV,Nat.reduceAdd,Nat.reduceEqDiff,Nat.reduceLeDiff,reduceCtorEq,TF9,TF46,TF84];refine⟨by unfold InR cap at *;omega,by omega,foC x,foR_get hx,rfl,?_⟩;simp -implicitDefEqProofs only [EV,Nat.reduceEqDiff,Int.reduceEq,reduceCtorEq,TF9,];refine⟨(by first | (unfold InR;omega) | (simp only [InR,sm,lim] at *;omega)),by unfold InR cap at *;omega,intV (x.bound.count (m+1+((x.name.length / 50:Nat):Int))),.inl ⟨_,rfl,ok_Count04 _ _ (by omega) (by unfold cap at *;omega),rfl⟩,?_⟩;simp -implicitDefEqProofs only [EV,])
   (refine hK _ _ ?_;clear hK K;try simp only [thenA,blockA])
   refine hK2 _ _ ?_
   clear hK2 K2
   (refine AWp.lastR [0,1,4,5,13] [] (by decide +kernel) fun K hK=>?_;simp -implicitDefEqProofs only [EV,Nat.reduceEqDiff,reduceCtorEq,])
   refine⟨by unfold InR;unfold lim at *;omega,?_⟩
   (refine hK _ _ ?_;clear hK K;try simp only [thenA,])
   have hb:=fo1_bd x m (hok.2 x hmem)
   exact⟨(i+1,x.bound.count (m+1+((x.name.length / 50:Nat):Int))),⟨by simp only;omega,by simp only;omega,by simp only;unfold cap;omega,heq⟩,by simp only;omega,by simp [sle,vle,sget],(by simp [ble,])⟩
  ·rw [if_neg hm] at heq
   (refine AWp.seqR [0,1,4,5,13] [] (by decide +kernel) fun K hK=>?_;simp -implicitDefEqProofs only [EV,Nat.reduceEqDiff,reduceCtorEq,TF46,hlt,hm];refine hK _ _ ?_;clear hK K)
   refine AWp.condF rfl (AWp.exit ?_)
   simp only [thenA,blockA,if_true]
   exact fin _ _ (by simp [sle,vle,sget,heq]) (by simp [ble,])
 ·refine AWp.seqK fun K2 hK2=>?_
  (refine AWp.seqR [0,1,4,5,13] [] (by decide +kernel) fun K hK=>?_;simp -implicitDefEqProofs only [EV,Nat.reduceEqDiff,reduceCtorEq,TF46,hlt];refine hK _ _ ?_;clear hK K)
  refine AWp.condF rfl (AWp.exit ?_)
  simp only [thenA,blockA,if_true]
  rw [List.drop_eq_nil_of_le (by omega),foCount] at heq
  exact fin _ _ (by simp [sle,vle,sget,heq]) (by simp [ble,])
set_option maxRecDepth 100000 in
set_option maxHeartbeats 1000000 in
theorem ok_paCount (l:List Param)(n:Int)(h0:0≤n)(h1:n≤cap - 100000000000000):CallOK Tryz.prog 92 [.d (.slice (paR l)),intV n] (intV (paCount l n)):=by
 refine CallB.bd (Enters.of Tryz.func92 rfl (by decide)) fun hbd=>?_
 have hok:=pas_ok hbd.1
 have hl:=hok.1
 (refine CallOK.of_body Tryz.func92 rfl (by decide) (by rw [Tryz.ntmps92];simp) ?_;rw [Tryz.ntmps92])
 (refine AWp.seqR [0,1,4,5,13] [] (by decide +kernel) fun K hK=>?_;simp -implicitDefEqProofs only [EV,Nat.reduceAdd,Nat.reduceEqDiff,reduceCtorEq,];refine hK _ _ ?_;clear hK K)
 refine AWp.seqK fun K1 hK1=>?_
 have fin:∀ sl bx,sle sl [(1,intV (paCount l n))]→ble bx []→K1 sl bx:=by
  intro sl bx h1 h2
  refine hK1 _ _ (AWp.weaken h1 h2 ?_)
  clear hK1 K1
  (refine AWp.seqR [0,1,4,5,13] [] (by decide +kernel) fun K hK=>?_;simp -implicitDefEqProofs only [EV,Nat.reduceEqDiff,reduceCtorEq,];refine hK _ _ ?_;clear hK K)
  exact AWp.ret ⟨_,by rw [Tryz.results92];rfl,rfl⟩
 (refine AWp.seqR [0,1,4,5,13] [] (by decide +kernel) fun K hK=>?_;simp -implicitDefEqProofs only [EV,Nat.reduceEqDiff,reduceCtorEq,];refine hK _ _ ?_;clear hK K)
 refine AWp.block (AWp.loop (X:=Nat × Int) (fun x=>[(1,intV x.2),(5,intV x.1),(0,.d (.slice (paR l)))]) (fun _=>[])
  (fun x=>x.1≤l.length∧0≤x.2∧x.2≤cap+100000000000000∧paCount (l.drop x.1) x.2=paCount l n) (fun x=>l.length - x.1) (0,n) ?_ ?_ ?_ ?_)
 ·exact⟨by simp,by omega,by unfold cap at *;omega,by first | rfl | simp⟩
 ·simp [sle,vle,sget]
 ·exact (by simp [ble,])
 rintro⟨i,m⟩ ⟨hi,hm0,hm1,heq⟩
 simp only at hi hm0 hm1 heq
 by_cases hlt:(i:Int) < (l.length:Int)
 ·have hlt':i < l.length:=by omega
  have hx:l[i]? = some l[i]:=List.getElem?_eq_getElem hlt'
  have hmem:l[i]∈l:=List.getElem_mem hlt'
  have hdrop:l.drop i=l[i]::l.drop (i+1):=List.drop_eq_getElem_cons hlt'
  generalize l[i]=x at *
  rw [hdrop,paCount] at heq
  refine AWp.seqK fun K2 hK2=>?_
  by_cases hm:m≤2000
  ·rw [if_pos hm] at heq
   (refine AWp.seqR [0,1,4,5,13] [] (by decide +kernel) fun K hK=>?_;simp -implicitDefEqProofs only [EV,Nat.reduceEqDiff,reduceCtorEq,TF47,hlt,hm];refine hK _ _ ?_;clear hK K)
   refine AWp.condT rfl (AWp.skip (hK2 _ _ ?_))
   clear hK2 K2
   refine AWp.seqK fun K2 hK2=>?_
   refine AWp.block ?_
   (refine AWp.lastD [0,1,4,5,13] [] 16 mixed (by decide +kernel) (by decide +kernel) fun K hK=>?_;simp -implicitDefEqProofs only [EV,Nat.reduceAdd,Nat.reduceEqDiff,reduceCtorEq,TF25,TF47,TF91])
   (have hq:=div50_le (hok.2 x hmem).name;refine⟨by omega,paC x,paR_get hx,rfl,?_⟩;simp -implicitDefEqProofs only [EV,Nat.reduceAdd,Nat.reduceEqDiff,Nat.reduceLeDiff,reduceCtorEq,TF9,TF47,TF91];refine⟨by unfold InR cap at *;omega,by omega,paC x,paR_get hx,rfl,?_⟩;simp -implicitDefEqProofs only [EV,Nat.reduceEqDiff,Int.reduceEq,reduceCtorEq,TF9,];refine⟨(by first | (unfold InR;omega) | (simp only [InR,sm,lim] at *;omega)),by unfold InR cap at *;omega,intV (x.type.count (m+1+((x.name.length / 50:Nat):Int))),.inl ⟨_,rfl,ok_Count04 _ _ (by omega) (by unfold cap at *;omega),rfl⟩,?_⟩;simp -implicitDefEqProofs only [EV,])
   (refine hK _ _ ?_;clear hK K;try simp only [thenA,blockA])
   refine hK2 _ _ ?_
   clear hK2 K2
   (refine AWp.lastR [0,1,4,5,13] [] (by decide +kernel) fun K hK=>?_;simp -implicitDefEqProofs only [EV,Nat.reduceEqDiff,reduceCtorEq,])
   refine⟨by unfold InR;unfold lim at *;omega,?_⟩
   (refine hK _ _ ?_;clear hK K;try simp only [thenA,])
   have hb:=pa1_bd x m (hok.2 x hmem)
   exact⟨(i+1,x.type.count (m+1+((x.name.length / 50:Nat):Int))),⟨by simp only;omega,by simp only;omega,by simp only;unfold cap;omega,heq⟩,by simp only;omega,by simp [sle,vle,sget],(by simp [ble,])⟩
  ·rw [if_neg hm] at heq
   (refine AWp.seqR [0,1,4,5,13] [] (by decide +kernel) fun K hK=>?_;simp -implicitDefEqProofs only [EV,Nat.reduceEqDiff,reduceCtorEq,TF47,hlt,hm];refine hK _ _ ?_;clear hK K)
   refine AWp.condF rfl (AWp.exit ?_)
   simp only [thenA,blockA,if_true]
   exact fin _ _ (by simp [sle,vle,sget,heq]) (by simp [ble,])
 ·refine AWp.seqK fun K2 hK2=>?_
  (refine AWp.seqR [0,1,4,5,13] [] (by decide +kernel) fun K hK=>?_;simp -implicitDefEqProofs only [EV,Nat.reduceEqDiff,reduceCtorEq,TF47,hlt];refine hK _ _ ?_;clear hK K)
  refine AWp.condF rfl (AWp.exit ?_)
  simp only [thenA,blockA,if_true]
  rw [List.drop_eq_nil_of_le (by omega),paCount] at heq
  exact fin _ _ (by simp [sle,vle,sget,heq]) (by simp [ble,])
def Sig.count (s:Sig)(n:Int):Int:=s.result.count (paCount s.params (foCount s.formals (n+((s.name.length / 50:Nat):Int))))
theorem Sig.count_bd (s:Sig)(n:Int)(h:s.Ok):n≤s.count n∧s.count n≤max n 2000+10000000000000:=by
 have h1:=div50_le h.name
 have h2:=foCount_bd s.formals (n+((s.name.length / 50:Nat):Int)) h.formals.2
 have h3:=paCount_bd s.params (foCount s.formals (n+((s.name.length / 50:Nat):Int))) h.params.2
 have h4:=Ty.count_bd s.result (paCount s.params (foCount s.formals (n+((s.name.length / 50:Nat):Int)))) h.result
 unfold Sig.count
 omega
set_option maxRecDepth 100000 in
set_option maxHeartbeats 1000000 in
theorem ok_countSig (s:Sig)(n:Int)(h0:0≤n)(h1:n≤cap - 200000000000000):CallOK Tryz.prog 94 [siV s,intV n] (intV (s.count n)):=by
 refine CallB.bd (Enters.of Tryz.func94 rfl (by decide)) fun hbd=>?_
 have h:=sig_ok hbd.1
 have hq:=div50_le h.name
 have h2:=foCount_bd s.formals (n+((s.name.length / 50:Nat):Int)) h.formals.2
 have h3:=paCount_bd s.params (foCount s.formals (n+((s.name.length / 50:Nat):Int))) h.params.2
 (refine CallOK.of_body Tryz.func94 rfl (by decide) (by rw [Tryz.ntmps94];simp) ?_;rw [Tryz.ntmps94])
 (refine AWp.seqR [0,1,2,4] [] (by decide +kernel) fun K hK=>?_;simp -implicitDefEqProofs only [EV,Nat.reduceAdd,Nat.reduceEqDiff,Nat.reduceLeDiff,reduceCtorEq,];refine hK _ _ ?_;clear hK K)
 (refine AWp.seqD [0,1,2,4] [] 16 mixed (by decide +kernel) (by decide +kernel) fun K hK=>?_;simp -implicitDefEqProofs only [EV,Nat.reduceAdd,Nat.reduceEqDiff,Nat.reduceLeDiff,Int.reduceEq,reduceCtorEq,TF9,TF25,TF46,TF47,TF78,])
 refine⟨(by first | (unfold InR;omega) | (simp only [InR,sm,lim] at *;omega)),by unfold InR cap at *;omega,intV (foCount s.formals (n+((s.name.length / 50:Nat):Int))),.inl ⟨_,rfl,ok_foCount _ _ (by omega) (by unfold cap at *;omega),rfl⟩,?_⟩
 simp -implicitDefEqProofs only [EV,]
 refine⟨intV (paCount s.params (foCount s.formals (n+((s.name.length / 50:Nat):Int)))),.inl ⟨_,rfl,ok_paCount _ _ (by omega) (by unfold cap at *;omega),rfl⟩,?_⟩
 simp -implicitDefEqProofs only [EV,]
 refine⟨intV (s.count n),.inl ⟨_,rfl,ok_Count04 _ _ (by omega) (by unfold cap at *;omega),rfl⟩,?_⟩
 simp -implicitDefEqProofs only [EV,]
 (refine hK _ _ ?_;clear hK K)
 exact AWp.ret ⟨_,by rw [Tryz.results94];rfl,rfl⟩
end Go.Abs
namespace Go.Abs
set_option linter.unusedSimpArgs false
set_option linter.unusedVariables false
open Go Go.Proofs
def vaCount:List Str→Int→Int
 | [],n=>n
 | v::vs,n=>if n≤2000 then vaCount vs (n+1+((v.length / 50:Nat):Int)) else n
def siCount:List Sig→Int→Int
 | [],n=>n
 | s::ss,n=>if n≤2000 then siCount ss (s.count n) else n
def Decl.count2 (d:Decl)(n:Int):Int:=if n≤2000 then d.body.count (d.sig.count n) else n
def Decl.count (d:Decl)(n:Int):Int :=
 d.count2 (vaCount d.vars (siCount d.sigs (paCount d.fields (foCount d.formals (n+1+((d.name.length / 50:Nat):Int)+((d.recv.length / 50:Nat):Int))))))
def deCount:List Decl→Int→Int
 | [],n=>n
 | d::ds,n=>if n≤2000 then deCount ds (d.count n) else n
def Prog.count (p:Prog):Int:=deCount p.decls (p.main.count 0)
theorem vaCount_bd:∀ (l:List Str)(n:Int),(∀ t,t∈l→t.length≤lim)→n≤vaCount l n∧vaCount l n≤max n (2000+6000000000000)
 | [],n,_=>by simp only [vaCount];omega
 | t::ts,n,h=>by
  simp only [vaCount]
  split
  ·have h1:=div50_le (h t (by simp))
   have h2:=vaCount_bd ts (n+1+((t.length / 50:Nat):Int)) (fun u hu=>h u (by simp [hu]))
   omega
  ·omega
theorem siCount_bd:∀ (l:List Sig)(n:Int),(∀ t,t∈l→t.Ok)→n≤siCount l n∧siCount l n≤max n (2000+10000000000000)
 | [],n,_=>by simp only [siCount];omega
 | t::ts,n,h=>by
  simp only [siCount]
  split
  ·have h1:=Sig.count_bd t n (h t (by simp))
   have h2:=siCount_bd ts (t.count n) (fun u hu=>h u (by simp [hu]))
   omega
  ·omega
theorem Decl.count2_bd (d:Decl)(n:Int)(h:d.Ok):n≤d.count2 n∧d.count2 n≤max n (2000+20000000000000):=by
 have h1:=Sig.count_bd d.sig n h.sig
 have h2:=Ex.count_bd d.body (d.sig.count n) h.body
 unfold Decl.count2
 split <;> omega
theorem Decl.count_bd (d:Decl)(n:Int)(h:d.Ok):n≤d.count n∧d.count n≤max n 2000+30000000000000:=by
 have h1:=div50_le h.name
 have h2:=div50_le h.recv
 unfold Decl.count
 generalize hq:n+1+((d.name.length / 50:Nat):Int)+((d.recv.length / 50:Nat):Int)=n0
 have h3:=foCount_bd d.formals n0 h.formals.2
 have h4:=paCount_bd d.fields (foCount d.formals n0) h.fields.2
 have h5:=siCount_bd d.sigs (paCount d.fields (foCount d.formals n0)) h.sigs.2
 have h6:=vaCount_bd d.vars (siCount d.sigs (paCount d.fields (foCount d.formals n0))) h.vars.2
 have h7:=Decl.count2_bd d (vaCount d.vars (siCount d.sigs (paCount d.fields (foCount d.formals n0)))) h
 omega
set_option maxRecDepth 100000 in
set_option maxHeartbeats 2000000 in
theorem ok_Count06 (p:Prog):CallOK Tryz.prog 50 [prV p] (intV p.count):=by
 refine CallB.bd (Enters.of Tryz.func50 rfl (by decide)) fun hbd=>?_
 have hok:=prog_ok hbd.1
 have he:=Ex.count_bd p.main 0 hok.main
 have hl:=hok.decls.1
 have hcount:p.count=deCount p.decls (p.main.count 0):=rfl
 (refine CallOK.of_body Tryz.func50 rfl (by decide) (by rw [Tryz.ntmps50];simp) ?_;rw [Tryz.ntmps50])
 (refine AWp.seqR [0,1,2,3,4,5,6,7,19,53,71,85] [] (by decide +kernel) fun K hK=>?_;simp -implicitDefEqProofs only [EV,Nat.reduceEqDiff,Nat.reduceLeDiff,reduceCtorEq,];refine hK _ _ ?_;clear hK K)
 (refine AWp.seqR [0,1,2,3,4,5,6,7,19,53,71,85] [] (by decide +kernel) fun K hK=>?_;simp -implicitDefEqProofs only [EV,Nat.reduceAdd,Nat.reduceEqDiff,reduceCtorEq,TF28,TF30,])
 refine⟨intV (p.main.count 0),.inl ⟨_,rfl,ok_Count05 _ 0 (by omega) (by unfold cap;omega),rfl⟩,?_⟩
 simp -implicitDefEqProofs only [EV,]
 (refine hK _ _ ?_;clear hK K)
 generalize p.main.count 0=n1 at *
 refine AWp.seqK fun K1 hK1=>?_
 have fin:∀ sl bx,sle sl [(3,intV (deCount p.decls n1))]→ble bx []→K1 sl bx:=by
  intro sl bx h1 h2
  refine hK1 _ _ (AWp.weaken h1 h2 ?_)
  clear hK1 K1
  (refine AWp.seqR [0,1,2,3,4,5,6,7,19,53,71,85] [] (by decide +kernel) fun K hK=>?_;simp -implicitDefEqProofs only [EV,Nat.reduceEqDiff,reduceCtorEq,];refine hK _ _ ?_;clear hK K)
  rw [hcount]
  exact AWp.ret ⟨_,by rw [Tryz.results50];rfl,rfl⟩
 (refine AWp.seqR [0,1,2,3,4,5,6,7,19,53,71,85] [] (by decide +kernel) fun K hK=>?_;simp -implicitDefEqProofs only [EV,Nat.reduceEqDiff,reduceCtorEq,];refine hK _ _ ?_;clear hK K)
 refine AWp.block (AWp.loop (X:=Nat × Int) (fun x=>[(3,intV x.2),(4,intV x.1),(1,.box 1 0)]) (fun _=>[(1,.cells ((prC p).map .d))])
  (fun x=>x.1≤p.decls.length∧0≤x.2∧x.2≤100000000000000∧deCount (p.decls.drop x.1) x.2=deCount p.decls n1) (fun x=>p.decls.length - x.1) (0,n1) ?_ ?_ ?_ ?_)
 ·exact⟨by simp,by omega,by omega,by first | rfl | simp⟩
 ·exact (by simp [sle,vle,sget])
 ·exact (by simp [ble,bget,prC])
 rintro⟨j,k⟩ ⟨hj,hk0,hk1,heq⟩
 simp only at hj hk0 hk1 heq
 by_cases hlt:(j:Int) < (p.decls.length:Int)
 ·have hlt':j < p.decls.length:=by omega
  have hy:p.decls[j]? = some p.decls[j]:=List.getElem?_eq_getElem hlt'
  have hmemy:p.decls[j]∈p.decls:=List.getElem_mem hlt'
  have hdrop:p.decls.drop j=p.decls[j]::p.decls.drop (j+1):=List.drop_eq_getElem_cons hlt'
  generalize p.decls[j]=y at *
  have hyok:=hok.decls.2 y hmemy
  rw [hdrop,deCount] at heq
  refine AWp.seqK fun K2 hK2=>?_
  by_cases hm:k≤2000
  ·rw [if_pos hm] at heq
   (refine AWp.seqR [0,1,2,3,4,5,6,7,19,53,71,85] [] (by decide +kernel) fun K hK=>?_;simp -implicitDefEqProofs only [EV,Nat.reduceEqDiff,reduceCtorEq,TF22,TF30,hlt,hm];refine hK _ _ ?_;clear hK K)
   refine AWp.condT rfl (AWp.skip (hK2 _ _ ?_))
   clear hK2 K2
   refine AWp.seqK fun K2 hK2=>?_
   have fin:∀ sl bx,sle sl [(3,intV (y.count k)),(4,intV j),(1,.box 1 0)]→ble bx [(1,.cells ((prC p).map .d))]→K2 sl bx:=by
    intro sl bx h1 h2
    refine hK2 _ _ (AWp.weaken h1 h2 ?_)
    clear hK2 K2
    (refine AWp.lastR [0,1,2,3,4,5,6,7,19,53,71,85] [] (by decide +kernel) fun K hK=>?_;simp -implicitDefEqProofs only [EV,Nat.reduceEqDiff,reduceCtorEq,])
    refine⟨by unfold InR;unfold lim at *;omega,?_⟩
    (refine hK _ _ ?_;clear hK K;try simp only [thenA,])
    have hb:=Decl.count_bd y k hyok
    exact⟨(j+1,y.count k),⟨by simp only;omega,by simp only;omega,by simp only;omega,heq⟩,by simp only;omega,by simp [sle,vle,sget],(by simp [ble,bget,prC])⟩
   clear hK2
   have hyc:y.count k=y.count2 (vaCount y.vars (siCount y.sigs (paCount y.fields (foCount y.formals (k+1+((y.name.length / 50:Nat):Int)+((y.recv.length / 50:Nat):Int)))))):=rfl
   generalize y.count k=res at *
   have hq1:=div50_le hyok.name
   have hq2:=div50_le hyok.recv
   refine AWp.block ?_
   (refine AWp.seqR [0,1,2,3,4,5,6,7,19,53,71,85] [] (by decide +kernel) fun K hK=>?_;simp -implicitDefEqProofs only [EV,Nat.reduceEqDiff,reduceCtorEq,TF22,TF30,TF80,])
   refine⟨by omega,deC y,deR_get hy,rfl,?_⟩
   simp -implicitDefEqProofs only [EV,Nat.reduceAdd,Nat.reduceEqDiff,Nat.reduceBEq,Nat.reduceLeDiff,reduceCtorEq,TF80,]
   (refine hK _ _ ?_;clear hK K)
   (refine AWp.seqD [0,1,2,3,4,5,6,7,19,53,71,85] [] 18 mixed (by decide +kernel) (by decide +kernel) fun K hK=>?_;simp -implicitDefEqProofs only [EV,Nat.reduceEqDiff,Int.reduceEq,reduceCtorEq,TF9,TF46,TF47,TF80,])
   generalize hq3:k+1+((y.name.length / 50:Nat):Int)+((y.recv.length / 50:Nat):Int)=n2 at *
   have h3:=foCount_bd y.formals n2 hyok.formals.2
   have h4:=paCount_bd y.fields (foCount y.formals n2) hyok.fields.2
   refine⟨(by first | (unfold InR;omega) | (simp only [InR,sm,lim] at *;omega)),(by first | (unfold InR;omega) | (simp only [InR,sm,lim] at *;omega)),(by first | (unfold InR;omega) | (simp only [InR,sm,lim] at *;omega)),(by first | (unfold InR;omega) | (simp only [InR,sm,lim] at *;omega)),(by first | (unfold InR;omega) | (simp only [InR,sm,lim] at *;omega)),intV (foCount y.formals n2),.inl ⟨_,rfl,ok_foCount _ _ (by omega) (by unfold cap;omega),rfl⟩,?_⟩
   simp -implicitDefEqProofs only [EV,]
   refine⟨intV (paCount y.fields (foCount y.formals n2)),.inl ⟨_,rfl,ok_paCount _ _ (by omega) (by unfold cap;omega),rfl⟩,?_⟩
   simp -implicitDefEqProofs only [EV,]
   (refine hK _ _ ?_;clear hK K)
   generalize hn3:paCount y.fields (foCount y.formals n2)=n3 at *
   have hl1:=hyok.sigs.1
   have hl2:=hyok.vars.1
   have h5:=siCount_bd y.sigs n3 hyok.sigs.2
   have h6:=vaCount_bd y.vars (siCount y.sigs n3) hyok.vars.2
   have hb1:=Sig.count_bd y.sig (vaCount y.vars (siCount y.sigs n3)) hyok.sig
   have hb2:=Ex.count_bd y.body (y.sig.count (vaCount y.vars (siCount y.sigs n3))) hyok.body
   refine AWp.seqK fun K3 hK3=>?_
   have fin:∀ sl bx,sle sl [(3,intV (siCount y.sigs n3)),(4,intV j),(1,.box 1 0),(5,.box 5 0)]→ble bx [(1,.cells ((prC p).map .d)),(5,.cells ((deC y).map .d))]→K3 sl bx:=by
    intro sl bx h1 h2
    refine hK3 _ _ (AWp.weaken h1 h2 ?_)
    clear hK3 K3
    generalize hn4:siCount y.sigs n3=n4 at *
    refine AWp.seqK fun K3 hK3=>?_
    have fin:∀ sl bx,sle sl [(3,intV (vaCount y.vars n4)),(4,intV j),(1,.box 1 0),(5,.box 5 0)]→ble bx [(1,.cells ((prC p).map .d)),(5,.cells ((deC y).map .d))]→K3 sl bx:=by
     intro sl bx h1 h2
     refine hK3 _ _ (AWp.weaken h1 h2 ?_)
     clear hK3 K3
     generalize hn5:vaCount y.vars n4=n5 at *
     (refine AWp.seqR [0,1,2,3,4,5,6,7,19,53,71,85] [] (by decide +kernel) fun K hK=>?_;simp -implicitDefEqProofs only [EV,Nat.reduceEqDiff,reduceCtorEq,];refine hK _ _ ?_;clear hK K)
     unfold Decl.count2 at hyc
     by_cases hlast:n5≤2000
     ·rw [if_pos hlast] at hyc
      refine AWp.condT (by simp [opnd,sget,hlast]) ?_
      (refine AWp.lastD [0,1,2,3,4,5,6,7,19,53,71,85] [] 7 mixed (by decide +kernel) (by decide +kernel) fun K hK=>?_;simp -implicitDefEqProofs only [EV,Nat.reduceAdd,Nat.reduceEqDiff,Nat.reduceLeDiff,reduceCtorEq,TF28,TF78,TF80,hlast])
      refine⟨intV (y.sig.count n5),.inl ⟨_,rfl,ok_countSig _ _ (by omega) (by unfold cap;omega),rfl⟩,?_⟩
      simp -implicitDefEqProofs only [EV,]
      refine⟨intV (y.body.count (y.sig.count n5)),.inl ⟨_,rfl,ok_Count05 _ _ (by omega) (by unfold cap;omega),rfl⟩,?_⟩
      simp -implicitDefEqProofs only [EV,]
      (refine hK _ _ ?_;clear hK K;try simp only [thenA,blockA])
      exact fin _ _ (by simp [sle,vle,sget,hyc]) (by simp [ble,bget,prC])
     ·rw [if_neg hlast] at hyc
      refine AWp.condF (by simp [opnd,sget,hlast]) (AWp.skip ?_)
      simp only [thenA,blockA]
      exact fin _ _ (by simp [sle,vle,sget,hyc]) (by simp [ble,bget,prC])
    (refine AWp.seqR [0,1,2,3,4,5,6,7,19,53,71,85] [] (by decide +kernel) fun K hK=>?_;simp -implicitDefEqProofs only [EV,Nat.reduceEqDiff,reduceCtorEq,];refine hK _ _ ?_;clear hK K)
    refine AWp.block (AWp.loop (X:=Nat × Int) (fun x=>[(3,intV x.2),(7,intV x.1),(4,intV j),(1,.box 1 0),(5,.box 5 0)]) (fun _=>[(1,.cells ((prC p).map .d)),(5,.cells ((deC y).map .d))])
     (fun x=>x.1≤y.vars.length∧0≤x.2∧x.2≤cap+100000000000000∧vaCount (y.vars.drop x.1) x.2=vaCount y.vars n4) (fun x=>y.vars.length - x.1) (0,n4) ?_ ?_ ?_ ?_)
    ·exact⟨by simp,by omega,by unfold cap at *;omega,by first | rfl | simp⟩
    ·simp [sle,vle,sget]
    ·exact (by simp [ble,bget,deC,prC])
    rintro⟨i,m⟩ ⟨hi,hm0,hm1,heq⟩
    simp only at hi hm0 hm1 heq
    by_cases hlt:(i:Int) < (y.vars.length:Int)
    ·have hlt':i < y.vars.length:=by omega
     have hx:y.vars[i]? = some y.vars[i]:=List.getElem?_eq_getElem hlt'
     have hmem:y.vars[i]∈y.vars:=List.getElem_mem hlt'
     have hdrop:y.vars.drop i=y.vars[i]::y.vars.drop (i+1):=List.drop_eq_getElem_cons hlt'
     generalize y.vars[i]=x at *
     rw [hdrop,vaCount] at heq
     refine AWp.seqK fun K2 hK2=>?_
     by_cases hm:m≤2000
     ·rw [if_pos hm] at heq
      (refine AWp.seqR [0,1,2,3,4,5,6,7,19,53,71,85] [] (by decide +kernel) fun K hK=>?_;simp -implicitDefEqProofs only [EV,Nat.reduceEqDiff,reduceCtorEq,TF76,TF80,hlt,hm];refine hK _ _ ?_;clear hK K)
      refine AWp.condT rfl (AWp.skip (hK2 _ _ ?_))
      clear hK2 K2
      refine AWp.seqK fun K2 hK2=>?_
      refine AWp.block ?_
      (refine AWp.lastR [0,1,2,3,4,5,6,7,19,53,71,85] [] (by decide +kernel) fun K hK=>?_;simp -implicitDefEqProofs only [EV,Nat.reduceEqDiff,reduceCtorEq,TF9,TF76,TF80,])
      (have hq:=div50_le (hyok.vars.2 x hmem);refine⟨(by first | (unfold InR;omega) | (simp only [InR,sm,lim] at *;omega)),by omega,_,strR_get hx,rfl,?_⟩;simp -implicitDefEqProofs only [EV,Nat.reduceEqDiff,Int.reduceEq,reduceCtorEq,TF9,];refine⟨(by first | (unfold InR;omega) | (simp only [InR,sm,lim] at *;omega)),by unfold InR cap at *;omega,?_⟩)
      (refine hK _ _ ?_;clear hK K;try simp only [thenA,blockA])
      refine hK2 _ _ ?_
      clear hK2 K2
      (refine AWp.lastR [0,1,2,3,4,5,6,7,19,53,71,85] [] (by decide +kernel) fun K hK=>?_;simp -implicitDefEqProofs only [EV,Nat.reduceEqDiff,reduceCtorEq,])
      refine⟨by unfold InR;unfold lim at *;omega,?_⟩
      (refine hK _ _ ?_;clear hK K;try simp only [thenA,])
      have hb:=div50_le (hyok.vars.2 x hmem)
      exact⟨(i+1,m+1+((x.length / 50:Nat):Int)),⟨by simp only;omega,by simp only;omega,by simp only;unfold cap;omega,heq⟩,by simp only;omega,by simp [sle,vle,sget],(by simp [ble,bget,deC,prC])⟩
     ·rw [if_neg hm] at heq
      (refine AWp.seqR [0,1,2,3,4,5,6,7,19,53,71,85] [] (by decide +kernel) fun K hK=>?_;simp -implicitDefEqProofs only [EV,Nat.reduceEqDiff,reduceCtorEq,TF76,TF80,hlt,hm];refine hK _ _ ?_;clear hK K)
      refine AWp.condF rfl (AWp.exit ?_)
      simp only [thenA,blockA,if_true]
      exact fin _ _ (by simp [sle,vle,sget,heq]) (by simp [ble,bget,deC,prC])
    ·refine AWp.seqK fun K2 hK2=>?_
     (refine AWp.seqR [0,1,2,3,4,5,6,7,19,53,71,85] [] (by decide +kernel) fun K hK=>?_;simp -implicitDefEqProofs only [EV,Nat.reduceEqDiff,reduceCtorEq,TF76,TF80,hlt];refine hK _ _ ?_;clear hK K)
     refine AWp.condF rfl (AWp.exit ?_)
     simp only [thenA,blockA,if_true]
     rw [List.drop_eq_nil_of_le (by omega),vaCount] at heq
     exact fin _ _ (by simp [sle,vle,sget,heq]) (by simp [ble,bget,deC,prC])
   (refine AWp.seqR [0,1,2,3,4,5,6,7,19,53,71,85] [] (by decide +kernel) fun K hK=>?_;simp -implicitDefEqProofs only [EV,Nat.reduceEqDiff,reduceCtorEq,];refine hK _ _ ?_;clear hK K)
   refine AWp.block (AWp.loop (X:=Nat × Int) (fun x=>[(3,intV x.2),(6,intV x.1),(4,intV j),(1,.box 1 0),(5,.box 5 0)]) (fun _=>[(1,.cells ((prC p).map .d)),(5,.cells ((deC y).map .d))])
    (fun x=>x.1≤y.sigs.length∧0≤x.2∧x.2≤cap+100000000000000∧siCount (y.sigs.drop x.1) x.2=siCount y.sigs n3) (fun x=>y.sigs.length - x.1) (0,n3) ?_ ?_ ?_ ?_)
   ·exact⟨by simp,by omega,by unfold cap at *;omega,by first | rfl | simp⟩
   ·simp [sle,vle,sget]
   ·exact (by simp [ble,bget,deC,prC])
   rintro⟨i,m⟩ ⟨hi,hm0,hm1,heq⟩
   simp only at hi hm0 hm1 heq
   by_cases hlt:(i:Int) < (y.sigs.length:Int)
   ·have hlt':i < y.sigs.length:=by omega
    have hx:y.sigs[i]? = some y.sigs[i]:=List.getElem?_eq_getElem hlt'
    have hmem:y.sigs[i]∈y.sigs:=List.getElem_mem hlt'
    have hdrop:y.sigs.drop i=y.sigs[i]::y.sigs.drop (i+1):=List.drop_eq_getElem_cons hlt'
    generalize y.sigs[i]=x at *
    rw [hdrop,siCount] at heq
    refine AWp.seqK fun K2 hK2=>?_
    by_cases hm:m≤2000
    ·rw [if_pos hm] at heq
     (refine AWp.seqR [0,1,2,3,4,5,6,7,19,53,71,85] [] (by decide +kernel) fun K hK=>?_;simp -implicitDefEqProofs only [EV,Nat.reduceEqDiff,reduceCtorEq,TF75,TF80,hlt,hm];refine hK _ _ ?_;clear hK K)
     refine AWp.condT rfl (AWp.skip (hK2 _ _ ?_))
     clear hK2 K2
     refine AWp.seqK fun K2 hK2=>?_
     refine AWp.block ?_
     (refine AWp.lastR [0,1,2,3,4,5,6,7,19,53,71,85] [] (by decide +kernel) fun K hK=>?_;simp -implicitDefEqProofs only [EV,Nat.reduceEqDiff,reduceCtorEq,TF75,TF78,TF80,])
     (refine⟨by omega,siC x,siR_get hx,rfl,?_⟩;simp -implicitDefEqProofs only [EV,Nat.reduceAdd,Nat.reduceEqDiff,reduceCtorEq,];refine⟨intV (x.count m),.inl ⟨_,rfl,ok_countSig x m hm0 (by unfold cap;omega),rfl⟩,?_⟩;simp -implicitDefEqProofs only [EV,])
     (refine hK _ _ ?_;clear hK K;try simp only [thenA,blockA])
     refine hK2 _ _ ?_
     clear hK2 K2
     (refine AWp.lastR [0,1,2,3,4,5,6,7,19,53,71,85] [] (by decide +kernel) fun K hK=>?_;simp -implicitDefEqProofs only [EV,Nat.reduceEqDiff,reduceCtorEq,])
     refine⟨by unfold InR;unfold lim at *;omega,?_⟩
     (refine hK _ _ ?_;clear hK K;try simp only [thenA,])
     have hb:=Sig.count_bd x m (hyok.sigs.2 x hmem)
     exact⟨(i+1,x.count m),⟨by simp only;omega,by simp only;omega,by simp only;unfold cap;omega,heq⟩,by simp only;omega,by simp [sle,vle,sget],(by simp [ble,bget,deC,prC])⟩
    ·rw [if_neg hm] at heq
     (refine AWp.seqR [0,1,2,3,4,5,6,7,19,53,71,85] [] (by decide +kernel) fun K hK=>?_;simp -implicitDefEqProofs only [EV,Nat.reduceEqDiff,reduceCtorEq,TF75,TF80,hlt,hm];refine hK _ _ ?_;clear hK K)
     refine AWp.condF rfl (AWp.exit ?_)
     simp only [thenA,blockA,if_true]
     exact fin _ _ (by simp [sle,vle,sget,heq]) (by simp [ble,bget,deC,prC])
   ·refine AWp.seqK fun K2 hK2=>?_
    (refine AWp.seqR [0,1,2,3,4,5,6,7,19,53,71,85] [] (by decide +kernel) fun K hK=>?_;simp -implicitDefEqProofs only [EV,Nat.reduceEqDiff,reduceCtorEq,TF75,TF80,hlt];refine hK _ _ ?_;clear hK K)
    refine AWp.condF rfl (AWp.exit ?_)
    simp only [thenA,blockA,if_true]
    rw [List.drop_eq_nil_of_le (by omega),siCount] at heq
    exact fin _ _ (by simp [sle,vle,sget,heq]) (by simp [ble,bget,deC,prC])
  ·rw [if_neg hm] at heq
   (refine AWp.seqR [0,1,2,3,4,5,6,7,19,53,71,85] [] (by decide +kernel) fun K hK=>?_;simp -implicitDefEqProofs only [EV,Nat.reduceEqDiff,reduceCtorEq,TF22,TF30,hlt,hm];refine hK _ _ ?_;clear hK K)
   refine AWp.condF rfl (AWp.exit ?_)
   simp only [thenA,blockA,if_true]
   exact fin _ _ (by simp [sle,vle,sget,heq]) (by simp [ble,])
 ·refine AWp.seqK fun K2 hK2=>?_
  (refine AWp.seqR [0,1,2,3,4,5,6,7,19,53,71,85] [] (by decide +kernel) fun K hK=>?_;simp -implicitDefEqProofs only [EV,Nat.reduceEqDiff,reduceCtorEq,TF22,TF30,hlt];refine hK _ _ ?_;clear hK K)
  refine AWp.condF rfl (AWp.exit ?_)
  simp only [thenA,blockA,if_true]
  rw [List.drop_eq_nil_of_le (by omega),deCount] at heq
  exact fin _ _ (by simp [sle,vle,sget,heq]) (by simp [ble,])
theorem Prog.count_bd (p:Prog)(h:p.Ok):0≤p.count:=by
 have h1:=(Ex.count_bd p.main 0 h.main).1
 have h2:∀ (l:List Decl) (n:Int),(∀ d,d∈l→d.Ok)→n≤deCount l n:=by
  intro l
  induction l with
  | nil=>intro n _;simp [deCount]
  | cons d l ih =>
   intro n hl
   simp only [deCount]
   split
   ·have h3:=Decl.count_bd d n (hl d (by simp))
    have h4:=ih (d.count n) (fun u hu=>hl u (by simp [hu]))
    omega
   ·omega
 have h3:=h2 p.decls (p.main.count 0) h.decls.2
 unfold Prog.count
 omega
set_option maxRecDepth 100000 in
set_option maxHeartbeats 1000000 in
theorem ok_Few06 (p:Prog):CallOK Tryz.prog 13 [prV p] (boolV (decide (p.count≤600))):=by
 (refine CallOK.of_body Tryz.func13 rfl (by decide) (by rw [Tryz.ntmps13];simp) ?_;rw [Tryz.ntmps13])
 (refine AWp.seqR [0,1,2] [] (by decide +kernel) fun K hK=>?_;simp -implicitDefEqProofs only [EV,Nat.reduceEqDiff,Nat.reduceLeDiff,reduceCtorEq,];refine hK _ _ ?_;clear hK K)
 (refine AWp.seqR [0,1,2] [] (by decide +kernel) fun K hK=>?_;simp -implicitDefEqProofs only [EV,Nat.reduceAdd,Nat.reduceEqDiff,reduceCtorEq,TF30])
 refine⟨intV p.count,.inl ⟨_,rfl,ok_Count06 p,rfl⟩,?_⟩
 simp -implicitDefEqProofs only [EV,Nat.reduceEqDiff,reduceCtorEq,]
 (refine hK _ _ ?_;clear hK K)
 exact AWp.ret ⟨_,by rw [Tryz.results13];rfl,rfl⟩
end Go.Abs
namespace Go.Abs
set_option linter.unusedSimpArgs false
set_option linter.unusedVariables false
open Go Go.Proofs
def Decl.isT (d:Decl)(nm:Str):Bool:=(decide (d.kind=1) || decide (d.kind=2)) && decide (d.name=nm)
def findD (nm:Str):List Decl→Nat→Int
 | [],_=>-1
 | d::ds,i=>if d.isT nm=true then i else findD nm ds (i+1)
set_option maxRecDepth 100000 in
set_option maxHeartbeats 1000000 in
theorem ok_Find (p:Prog)(nm:Str):CallOK Tryz.prog 45 [prV p,strV nm] (intV (findD nm p.decls 0)):=by
 refine CallB.bd (Enters.of Tryz.func45 rfl (by decide)) fun hbd=>?_
 have hok:=prog_ok hbd.1
 have hl:=hok.decls.1
 (refine CallOK.of_body Tryz.func45 rfl (by decide) (by rw [Tryz.ntmps45];simp) ?_;rw [Tryz.ntmps45])
 (refine AWp.seqR [0,1,2,4,5,10,38] [] (by decide +kernel) fun K hK=>?_;simp -implicitDefEqProofs only [EV,Nat.reduceAdd,Nat.reduceEqDiff,Nat.reduceLeDiff,reduceCtorEq,];refine hK _ _ ?_;clear hK K)
 refine AWp.seqK fun K1 hK1=>?_
 have fin:∀ sl bx,findD nm p.decls 0 = -1→K1 sl bx:=by
  intro sl bx h1
  refine hK1 _ _ (AWp.weaken (sl':=[]) (bx':=[]) trivial trivial ?_)
  clear hK1 K1
  (refine AWp.seqR [0,1,2,4,5,10,38] [] (by decide +kernel) fun K hK=>?_;simp -implicitDefEqProofs only [EV,Nat.reduceEqDiff,reduceCtorEq,Int.reduceNeg,];refine hK _ _ ?_;clear hK K)
  rw [h1]
  exact AWp.ret ⟨_,by rw [Tryz.results45];rfl,rfl⟩
 (refine AWp.seqR [0,1,2,4,5,10,38] [] (by decide +kernel) fun K hK=>?_;simp -implicitDefEqProofs only [EV,Nat.reduceEqDiff,reduceCtorEq,];refine hK _ _ ?_;clear hK K)
 refine AWp.block (AWp.loop (X:=Nat) (fun x=>[(5,intV x),(1,strV nm),(2,.box 2 0)]) (fun _=>[(2,.cells ((prC p).map .d))])
  (fun x=>x≤p.decls.length∧findD nm (p.decls.drop x) x=findD nm p.decls 0) (fun x=>p.decls.length - x) 0 ?_ ?_ ?_ ?_)
 ·exact⟨by simp,rfl⟩
 ·exact (by simp [sle,vle,sget])
 ·exact (by simp [ble,bget,prC])
 rintro j ⟨hj,heq⟩
 by_cases hlt:(j:Int) < (p.decls.length:Int)
 ·have hlt':j < p.decls.length:=by omega
  have hy:p.decls[j]? = some p.decls[j]:=List.getElem?_eq_getElem hlt'
  have hdrop:p.decls.drop j=p.decls[j]::p.decls.drop (j+1):=List.drop_eq_getElem_cons hlt'
  generalize p.decls[j]=y at *
  rw [hdrop,findD] at heq
  refine AWp.seqK fun K2 hK2=>?_
  (refine AWp.seqR [0,1,2,4,5,10,38] [] (by decide +kernel) fun K hK=>?_;simp -implicitDefEqProofs only [EV,Nat.reduceEqDiff,reduceCtorEq,TF22,TF30,hlt];refine hK _ _ ?_;clear hK K)
  refine AWp.condT rfl (AWp.skip (hK2 _ _ ?_))
  clear hK2 K2
  refine AWp.seqK fun K2 hK2=>?_
  refine AWp.block ?_
  by_cases hk1:y.kind=1
  ·by_cases hn:y.name=nm
   ·(refine AWp.seqR [0,1,2,4,5,10,38] [] (by decide +kernel) fun K hK=>?_;simp -implicitDefEqProofs only [EV,Nat.reduceEqDiff,reduceCtorEq,TF3,TF22,TF30,TF80,])
    repeat (refine⟨by omega,deC y,deR_get hy,rfl,?_⟩;simp -implicitDefEqProofs only [EV,Nat.reduceEqDiff,reduceCtorEq,TF9,TF22,TF30,TF80,hk1,hn])
    (refine hK _ _ ?_;clear hK K)
    have ht:y.isT nm=true:=by simp [Decl.isT,hk1,hn]
    rw [if_pos ht] at heq
    refine AWp.condT rfl ?_
    (refine AWp.seqR [0,1,2,4,5,10,38] [] (by decide +kernel) fun K hK=>?_;simp -implicitDefEqProofs only [EV,Nat.reduceEqDiff,reduceCtorEq,];refine hK _ _ ?_;clear hK K)
    rw [← heq]
    exact AWp.ret ⟨_,by rw [Tryz.results45];rfl,rfl⟩
   ·(refine AWp.seqR [0,1,2,4,5,10,38] [] (by decide +kernel) fun K hK=>?_;simp -implicitDefEqProofs only [EV,Nat.reduceEqDiff,reduceCtorEq,TF3,TF22,TF30,TF80,])
    repeat (refine⟨by omega,deC y,deR_get hy,rfl,?_⟩;simp -implicitDefEqProofs only [EV,Nat.reduceEqDiff,reduceCtorEq,TF9,TF22,TF30,TF80,hk1,hn])
    (refine hK _ _ ?_;clear hK K)
    have ht:¬ y.isT nm=true:=by simp [Decl.isT,hk1,hn]
    rw [if_neg ht] at heq
    refine AWp.condF rfl (AWp.skip ?_)
    simp only [thenA,blockA]
    refine hK2 _ _ ?_
    clear hK2 K2
    (refine AWp.lastR [0,1,2,4,5,10,38] [] (by decide +kernel) fun K hK=>?_;simp -implicitDefEqProofs only [EV,Nat.reduceEqDiff,reduceCtorEq,])
    refine⟨by unfold InR;unfold lim at *;omega,?_⟩
    (refine hK _ _ ?_;clear hK K;try simp only [thenA,])
    exact⟨j+1,⟨by omega,heq⟩,by omega,by simp [sle,vle,sget],(by simp [ble,bget,prC])⟩
  ·by_cases hk2:y.kind=2
   ·by_cases hn:y.name=nm
    ·(refine AWp.seqR [0,1,2,4,5,10,38] [] (by decide +kernel) fun K hK=>?_;simp -implicitDefEqProofs only [EV,Nat.reduceEqDiff,reduceCtorEq,TF3,TF22,TF30,TF80,])
     repeat (refine⟨by omega,deC y,deR_get hy,rfl,?_⟩;simp -implicitDefEqProofs only [EV,Nat.reduceEqDiff,Int.reduceEq,reduceCtorEq,TF3,TF9,TF22,TF30,TF80,hk2,hn])
     (refine hK _ _ ?_;clear hK K)
     have ht:y.isT nm=true:=by simp [Decl.isT,hk2,hn]
     rw [if_pos ht] at heq
     refine AWp.condT rfl ?_
     (refine AWp.seqR [0,1,2,4,5,10,38] [] (by decide +kernel) fun K hK=>?_;simp -implicitDefEqProofs only [EV,Nat.reduceEqDiff,reduceCtorEq,];refine hK _ _ ?_;clear hK K)
     rw [← heq]
     exact AWp.ret ⟨_,by rw [Tryz.results45];rfl,rfl⟩
    ·(refine AWp.seqR [0,1,2,4,5,10,38] [] (by decide +kernel) fun K hK=>?_;simp -implicitDefEqProofs only [EV,Nat.reduceEqDiff,reduceCtorEq,TF3,TF22,TF30,TF80,])
     repeat (refine⟨by omega,deC y,deR_get hy,rfl,?_⟩;simp -implicitDefEqProofs only [EV,Nat.reduceEqDiff,Int.reduceEq,reduceCtorEq,TF3,TF9,TF22,TF30,TF80,hk2,hn])
     (refine hK _ _ ?_;clear hK K)
     have ht:¬ y.isT nm=true:=by simp [Decl.isT,hk2,hn]
     rw [if_neg ht] at heq
     refine AWp.condF rfl (AWp.skip ?_)
     simp only [thenA,blockA]
     refine hK2 _ _ ?_
     clear hK2 K2
     (refine AWp.lastR [0,1,2,4,5,10,38] [] (by decide +kernel) fun K hK=>?_;simp -implicitDefEqProofs only [EV,Nat.reduceEqDiff,reduceCtorEq,])
     refine⟨by unfold InR;unfold lim at *;omega,?_⟩
     (refine hK _ _ ?_;clear hK K;try simp only [thenA,])
     exact⟨j+1,⟨by omega,heq⟩,by omega,by simp [sle,vle,sget],(by simp [ble,bget,prC])⟩
   ·(refine AWp.seqR [0,1,2,4,5,10,38] [] (by decide +kernel) fun K hK=>?_;simp -implicitDefEqProofs only [EV,Nat.reduceEqDiff,reduceCtorEq,TF3,TF22,TF30,TF80,])
    repeat (refine⟨by omega,deC y,deR_get hy,rfl,?_⟩;simp -implicitDefEqProofs only [EV,Nat.reduceEqDiff,reduceCtorEq,TF3,TF22,TF30,TF80,hk1,hk2])
    (refine hK _ _ ?_;clear hK K)
    have ht:¬ y.isT nm=true:=by simp [Decl.isT,hk1,hk2]
    rw [if_neg ht] at heq
    refine AWp.condF rfl (AWp.skip ?_)
    simp only [thenA,blockA]
    refine hK2 _ _ ?_
    clear hK2 K2
    (refine AWp.lastR [0,1,2,4,5,10,38] [] (by decide +kernel) fun K hK=>?_;simp -implicitDefEqProofs only [EV,Nat.reduceEqDiff,reduceCtorEq,])
    refine⟨by unfold InR;unfold lim at *;omega,?_⟩
    (refine hK _ _ ?_;clear hK K;try simp only [thenA,])
    exact⟨j+1,⟨by omega,heq⟩,by omega,by simp [sle,vle,sget],(by simp [ble,bget,prC])⟩
 ·refine AWp.seqK fun K2 hK2=>?_
  (refine AWp.seqR [0,1,2,4,5,10,38] [] (by decide +kernel) fun K hK=>?_;simp -implicitDefEqProofs only [EV,Nat.reduceEqDiff,reduceCtorEq,TF22,TF30,hlt];refine hK _ _ ?_;clear hK K)
  refine AWp.condF rfl (AWp.exit ?_)
  simp only [thenA,blockA,if_true]
  rw [List.drop_eq_nil_of_le (by omega),findD] at heq
  exact fin _ _ heq.symm
def kindOf (p:Prog)(nm:Str):Int:=match p.decls.find? (fun d=>d.isT nm) with
 | some d=>d.kind
 | none=>0
theorem findD_find (nm:Str):∀ (l:List Decl)(i:Nat),(findD nm l i = -1∧l.find? (fun d=>d.isT nm)=none)∨∃ k d,l[k]? = some d∧findD nm l i=((i+k:Nat):Int)∧l.find? (fun d=>d.isT nm)=some d
 | [],i=>by simp [findD]
 | d::ds,i=>by
  simp only [findD,List.find?_cons]
  split
  ·rename_i h;exact .inr ⟨0,d,rfl,rfl,by simp [h]⟩
  ·rename_i h
   rcases findD_find nm ds (i+1) with ⟨h1,h2⟩ | ⟨k,d',h1,h2,h3⟩
   ·exact .inl ⟨h1,by simp [h,h2]⟩
   ·exact .inr ⟨k+1,d',by simpa using h1,by rw [h2];congr 1;omega,by simp [h,h3]⟩
set_option maxRecDepth 100000 in
set_option maxHeartbeats 1000000 in
theorem ok_Kind (p:Prog)(nm:Str):CallOK Tryz.prog 46 [prV p,strV nm] (intV (kindOf p nm)):=by
 refine CallB.bd (Enters.of Tryz.func46 rfl (by decide)) fun hbd=>?_
 have hok:=prog_ok hbd.1
 have hl:=hok.decls.1
 (refine CallOK.of_body Tryz.func46 rfl (by decide) (by rw [Tryz.ntmps46];simp) ?_;rw [Tryz.ntmps46])
 (refine AWp.seqR [0,1,2,4,5,10] [] (by decide +kernel) fun K hK=>?_;simp -implicitDefEqProofs only [EV,Nat.reduceAdd,Nat.reduceEqDiff,Nat.reduceLeDiff,reduceCtorEq,];refine hK _ _ ?_;clear hK K)
 (refine AWp.seqR [0,1,2,4,5,10] [] (by decide +kernel) fun K hK=>?_;simp -implicitDefEqProofs only [EV,Nat.reduceAdd,Nat.reduceEqDiff,reduceCtorEq,TF30])
 refine⟨intV (findD nm p.decls 0),.inl ⟨_,rfl,ok_Find p nm,rfl⟩,?_⟩
 simp -implicitDefEqProofs only [EV,]
 (refine hK _ _ ?_;clear hK K)
 refine AWp.seqK fun K1 hK1=>?_
 rcases findD_find nm p.decls 0 with ⟨h1,h2⟩ | ⟨k,d,h1,h2,h3⟩
 ·rw [h1]
  have hk:kindOf p nm=0:=by simp [kindOf,h2]
  (refine AWp.seqR [0,1,2,4,5,10] [] (by decide +kernel) fun K hK=>?_;simp -implicitDefEqProofs only [EV,Nat.reduceEqDiff,Int.reduceLT,reduceCtorEq,Int.reduceNeg,];refine hK _ _ ?_;clear hK K)
  refine AWp.condT rfl ?_
  (refine AWp.seqR [0,1,2,4,5,10] [] (by decide +kernel) fun K hK=>?_;simp -implicitDefEqProofs only [EV,Nat.reduceEqDiff,reduceCtorEq,Int.reduceNeg,];refine hK _ _ ?_;clear hK K)
  rw [hk]
  exact AWp.ret ⟨_,by rw [Tryz.results46];rfl,rfl⟩
 ·rw [h2]
  have hk:kindOf p nm=d.kind:=by simp [kindOf,h3]
  have hge:¬ ((0+k:Nat):Int) < 0:=by omega
  have hkl:((0+k:Nat):Int).toNat=k:=by omega
  (refine AWp.seqR [0,1,2,4,5,10] [] (by decide +kernel) fun K hK=>?_;simp -implicitDefEqProofs only [EV,Nat.reduceEqDiff,reduceCtorEq,];refine hK _ _ ?_;clear hK K)
  refine AWp.condF rfl (AWp.skip (hK1 _ _ ?_))
  clear hK1 K1
  (refine AWp.seqR [0,1,2,4,5,10] [] (by decide +kernel) fun K hK=>?_;simp -implicitDefEqProofs only [EV,Nat.reduceEqDiff,reduceCtorEq,TF3,TF22,TF30,TF80])
  refine⟨by omega,deC d,deR_get h1,rfl,?_⟩
  simp -implicitDefEqProofs only [EV,Nat.reduceEqDiff,reduceCtorEq,]
  (refine hK _ _ ?_;clear hK K)
  rw [hk]
  exact AWp.ret ⟨_,by rw [Tryz.results46];rfl,rfl⟩
def cmpS:Str→Str→Int
 | [],[]=>0
 | [],_::_=>-1
 | _::_,[]=>1
 | x::xs,y::ys=>if x < y then -1 else if y < x then 1 else cmpS xs ys
set_option maxRecDepth 100000 in
set_option maxHeartbeats 1000000 in
theorem ok_Compare (a b:Str):CallOK Tryz.prog 129 [strV a,strV b] (intV (cmpS a b)):=by
 refine CallB.bd (Enters.of Tryz.func129 rfl (by decide)) fun hbd=>?_
 have hla:=str_bd hbd.1
 have hlb:=str_bd hbd.2.1
 (refine CallOK.of_body Tryz.func129 rfl (by decide) (by rw [Tryz.ntmps129];simp) ?_;rw [Tryz.ntmps129])
 (refine AWp.seqR [0,1,4,5,15,24,31,36,41] [] (by decide +kernel) fun K hK=>?_;simp -implicitDefEqProofs only [EV,Nat.reduceAdd,Nat.reduceEqDiff,reduceCtorEq,];refine hK _ _ ?_;clear hK K)
 refine AWp.seqK fun K1 hK1=>?_
 have fin:∀ sl bx,sle sl [(0,strV a),(1,strV b)]→(cmpS a b=if (a.length:Int) < b.length then -1 else if (b.length:Int) < a.length then 1 else 0)→K1 sl bx:=by
  intro sl bx hsl hc
  refine hK1 _ _ (AWp.weaken (bx':=[]) hsl trivial ?_)
  clear hK1 K1
  refine AWp.seqK fun K1 hK1=>?_
  by_cases h1:(a.length:Int) < b.length
  ·(refine AWp.seqR [0,1,4,5,15,24,31,36,41] [] (by decide +kernel) fun K hK=>?_;simp -implicitDefEqProofs only [EV,Nat.reduceEqDiff,reduceCtorEq,TF9,h1];refine hK _ _ ?_;clear hK K)
   refine AWp.condT rfl ?_
   (refine AWp.seqR [0,1,4,5,15,24,31,36,41] [] (by decide +kernel) fun K hK=>?_;simp -implicitDefEqProofs only [EV,Nat.reduceEqDiff,reduceCtorEq,Int.reduceNeg,];refine hK _ _ ?_;clear hK K)
   rw [hc,if_pos h1]
   exact AWp.ret ⟨_,by rw [Tryz.results129];rfl,rfl⟩
  ·(refine AWp.seqR [0,1,4,5,15,24,31,36,41] [] (by decide +kernel) fun K hK=>?_;simp -implicitDefEqProofs only [EV,Nat.reduceEqDiff,reduceCtorEq,TF9,h1];refine hK _ _ ?_;clear hK K)
   refine AWp.condF rfl (AWp.skip (hK1 _ _ ?_))
   clear hK1 K1
   refine AWp.seqK fun K1 hK1=>?_
   by_cases h2:(b.length:Int) < a.length
   ·(refine AWp.seqR [0,1,4,5,15,24,31,36,41] [] (by decide +kernel) fun K hK=>?_;simp -implicitDefEqProofs only [EV,Nat.reduceEqDiff,reduceCtorEq,TF9,h2];refine hK _ _ ?_;clear hK K)
    refine AWp.condT rfl ?_
    (refine AWp.seqR [0,1,4,5,15,24,31,36,41] [] (by decide +kernel) fun K hK=>?_;simp -implicitDefEqProofs only [EV,Nat.reduceEqDiff,reduceCtorEq,];refine hK _ _ ?_;clear hK K)
    rw [hc,if_neg h1,if_pos h2]
    exact AWp.ret ⟨_,by rw [Tryz.results129];rfl,rfl⟩
   ·(refine AWp.seqR [0,1,4,5,15,24,31,36,41] [] (by decide +kernel) fun K hK=>?_;simp -implicitDefEqProofs only [EV,Nat.reduceEqDiff,reduceCtorEq,TF9,h2];refine hK _ _ ?_;clear hK K)
    refine AWp.condF rfl (AWp.skip (hK1 _ _ ?_))
    clear hK1 K1
    (refine AWp.seqR [0,1,4,5,15,24,31,36,41] [] (by decide +kernel) fun K hK=>?_;simp -implicitDefEqProofs only [EV,Nat.reduceEqDiff,reduceCtorEq,];refine hK _ _ ?_;clear hK K)
    rw [hc,if_neg h1,if_neg h2]
    exact AWp.ret ⟨_,by rw [Tryz.results129];rfl,rfl⟩
 (refine AWp.seqR [0,1,4,5,15,24,31,36,41] [] (by decide +kernel) fun K hK=>?_;simp -implicitDefEqProofs only [EV,Nat.reduceEqDiff,reduceCtorEq,];refine hK _ _ ?_;clear hK K)
 refine AWp.block (AWp.loop (X:=Nat) (fun x=>[(5,intV x),(0,strV a),(1,strV b)]) (fun _=>[])
  (fun x=>x≤a.length∧x≤b.length∧cmpS (a.drop x) (b.drop x)=cmpS a b) (fun x=>a.length - x) 0 ?_ ?_ ?_ ?_)
 ·exact⟨by simp,by simp,rfl⟩
 ·exact (by simp [sle,vle,sget])
 ·exact (by simp [ble,])
 rintro j ⟨hj,hj2,heq⟩
 by_cases hlt:(j:Int) < (a.length:Int)
 ·by_cases hlt2:(j:Int) < (b.length:Int)
  ·have hlt':j < a.length:=by omega
   have hlt2':j < b.length:=by omega
   have hx:a[j]? = some a[j]:=List.getElem?_eq_getElem hlt'
   have hy:b[j]? = some b[j]:=List.getElem?_eq_getElem hlt2'
   rw [List.drop_eq_getElem_cons hlt',List.drop_eq_getElem_cons hlt2',cmpS] at heq
   generalize a[j]=x at *
   generalize b[j]=y at *
   refine AWp.seqK fun K2 hK2=>?_
   (refine AWp.seqR [0,1,4,5,15,24,31,36,41] [] (by decide +kernel) fun K hK=>?_;simp -implicitDefEqProofs only [EV,Nat.reduceEqDiff,reduceCtorEq,TF9,hlt,hlt2];refine hK _ _ ?_;clear hK K)
   refine AWp.condT rfl (AWp.skip (hK2 _ _ ?_))
   clear hK2 K2
   refine AWp.seqK fun K2 hK2=>?_
   refine AWp.block ?_
   refine AWp.seqK fun K3 hK3=>?_
   (refine AWp.seqD [0,1,4,5,15,24,31,36,41] [] 7 mixed (by decide +kernel) (by decide +kernel) fun K hK=>?_;simp -implicitDefEqProofs only [EV,Nat.reduceEqDiff,reduceCtorEq,TF9,])
   refine⟨by omega,x,hx,by omega,y,hy,?_⟩
   (refine hK _ _ ?_;clear hK K)
   have e1:∀ u v:UInt8,(u.toNat:Int) < v.toNat↔u < v:=fun u v=>by rw [UInt8.lt_iff_toNat_lt];omega
   simp only [e1]
   by_cases hxy:x < y
   ·rw [if_pos hxy] at heq
    refine AWp.condT (by simp [opnd,sget,hxy]) ?_
    (refine AWp.seqR [0,1,4,5,15,24,31,36,41] [] (by decide +kernel) fun K hK=>?_;simp -implicitDefEqProofs only [EV,Nat.reduceEqDiff,reduceCtorEq,Int.reduceNeg,];refine hK _ _ ?_;clear hK K)
    rw [← heq]
    exact AWp.ret ⟨_,by rw [Tryz.results129];rfl,rfl⟩
   ·rw [if_neg hxy] at heq
    refine AWp.condF (by simp [opnd,sget,hxy]) (AWp.skip ?_)
    simp only [thenA,]
    refine hK3 _ _ ?_
    clear hK3 K3
    (refine AWp.seqD [0,1,4,5,15,24,31,36,41] [] 7 mixed (by decide +kernel) (by decide +kernel) fun K hK=>?_;simp -implicitDefEqProofs only [EV,Nat.reduceEqDiff,reduceCtorEq,TF9,])
    refine⟨by omega,x,hx,by omega,y,hy,?_⟩
    (refine hK _ _ ?_;clear hK K)
    simp only [e1]
    by_cases hyx:y < x
    ·rw [if_pos hyx] at heq
     refine AWp.condT (by simp [opnd,sget,hyx]) ?_
     (refine AWp.seqR [0,1,4,5,15,24,31,36,41] [] (by decide +kernel) fun K hK=>?_;simp -implicitDefEqProofs only [EV,Nat.reduceEqDiff,reduceCtorEq,];refine hK _ _ ?_;clear hK K)
     rw [← heq]
     exact AWp.ret ⟨_,by rw [Tryz.results129];rfl,rfl⟩
    ·rw [if_neg hyx] at heq
     refine AWp.condF (by simp [opnd,sget,hyx]) (AWp.skip ?_)
     simp only [thenA,blockA]
     refine hK2 _ _ ?_
     clear hK2 K2
     (refine AWp.lastR [0,1,4,5,15,24,31,36,41] [] (by decide +kernel) fun K hK=>?_;simp -implicitDefEqProofs only [EV,Nat.reduceEqDiff,reduceCtorEq,])
     refine⟨by unfold InR;unfold lim at *;omega,?_⟩
     (refine hK _ _ ?_;clear hK K;try simp only [thenA,])
     exact⟨j+1,⟨by omega,by omega,heq⟩,by omega,by simp [sle,vle,sget],(by simp [ble,])⟩
  ·refine AWp.seqK fun K2 hK2=>?_
   (refine AWp.seqR [0,1,4,5,15,24,31,36,41] [] (by decide +kernel) fun K hK=>?_;simp -implicitDefEqProofs only [EV,Nat.reduceEqDiff,reduceCtorEq,TF9,hlt,hlt2];refine hK _ _ ?_;clear hK K)
   refine AWp.condF rfl (AWp.exit ?_)
   simp only [thenA,blockA,if_true]
   have hd:b.drop j=[]:=List.drop_eq_nil_of_le (by omega)
   rw [hd,List.drop_eq_getElem_cons (show j < a.length by omega),cmpS] at heq
   exact fin _ _ (by simp [sle,vle,sget]) (by rw [← heq,if_neg (by omega),if_pos (by omega)])
 ·refine AWp.seqK fun K2 hK2=>?_
  (refine AWp.seqR [0,1,4,5,15,24,31,36,41] [] (by decide +kernel) fun K hK=>?_;simp -implicitDefEqProofs only [EV,Nat.reduceEqDiff,reduceCtorEq,TF9,hlt];refine hK _ _ ?_;clear hK K)
  refine AWp.condF rfl (AWp.exit ?_)
  simp only [thenA,blockA,if_true]
  have hd:a.drop j=[]:=List.drop_eq_nil_of_le (by omega)
  rw [hd] at heq
  refine fin _ _ (by simp [sle,vle,sget]) ?_
  rw [← heq]
  by_cases hb:j < b.length
  ·rw [List.drop_eq_getElem_cons hb,cmpS,if_pos (by omega)]
  ·rw [List.drop_eq_nil_of_le (by omega),cmpS,if_neg (by omega),if_neg (by omega)]
end Go.Abs
namespace Go.Abs
set_option linter.unusedSimpArgs false
set_option linter.unusedVariables false
open Go Go.Proofs
def ins (s:Str):List Str→List Str
 | []=>[s]
 | x::xs=>if cmpS s x < 0 then s::x::xs else x::ins s xs
def putS (l:List Str)(s:Str):List Str:=if s∈l then l else ins s l
end Go.Abs
/- several texts in one -/
namespace Go.Abs
set_option linter.unusedSimpArgs false
set_option linter.unusedVariables false
open Go Go.Proofs
mutual
def Ty.structs (p:Prog):Ty→List Str→List Str
 | .mk n a _,acc=>if kindOf p n=1 then Ty.structsL p a (putS acc n) else acc
def Ty.structsL (p:Prog):List Ty→List Str→List Str
 | [],acc=>acc
 | t::ts,acc=>Ty.structsL p ts (t.structs p acc)
end
structure Win (p:Prog)(l:List Str):Prop where
 nodup:l.Nodup
 isS:∀ s,s∈l→kindOf p s=1
theorem kindOf_mem {p:Prog} {s:Str} (h:kindOf p s=1):s∈p.decls.map Decl.name:=by
 unfold kindOf at h
 split at h
 ·rename_i d hd
  have h1:=List.mem_of_find?_eq_some hd
  have h2:=List.find?_some hd
  simp only [Decl.isT,Bool.and_eq_true,decide_eq_true_eq] at h2
  exact List.mem_map.2 ⟨d,h1,h2.2⟩
 ·simp at h
theorem nodup_len {α:Type} [DecidableEq α]:∀ {l m:List α},l.Nodup→(∀ x,x∈l→x∈m)→l.length≤m.length
 | [],_,_,_=>by simp
 | x::l,m,h,hs=>by
  have hx:=hs x (by simp)
  obtain⟨h1,h2⟩:=List.nodup_cons.1 h
  have h3:l.length≤(m.erase x).length:=nodup_len h2 fun y hy=>(List.mem_erase_of_ne (by rintro rfl;exact h1 hy)).2 (hs y (by simp [hy]))
  rw [List.length_erase_of_mem hx] at h3
  have:=List.length_pos_of_mem hx
  simp only [List.length_cons];omega
theorem Win.len {p:Prog} {l:List Str} (h:Win p l):l.length≤p.decls.length:=by
 have:=nodup_len h.nodup fun s hs=>kindOf_mem (h.isS s hs)
 simpa using this
theorem Win.nil (p:Prog):Win p []:=⟨by simp,by simp⟩
theorem mem_ins {s x:Str}:∀ {l:List Str},x∈ins s l↔x=s∨x∈l
 | []=>by simp [ins]
 | y::ys=>by
  simp only [ins]
  split
  ·simp
  ·simp only [List.mem_cons,mem_ins]
   constructor
   ·rintro (h | h | h) <;> simp [h]
   ·rintro (h | h | h) <;> simp [h]
theorem mem_putS {s x:Str} {l:List Str}:x∈putS l s↔x=s∨x∈l:=by
 unfold putS
 split
 ·constructor
  ·exact .inr
  ·rintro (rfl | h)
   ·assumption
   ·exact h
 ·exact mem_ins
theorem ins_perm (s:Str):∀ l:List Str,(ins s l).Perm (s::l)
 | []=>.refl _
 | y::ys=>by
  simp only [ins]
  split
  ·exact .refl _
  ·exact ((ins_perm s ys).cons y).trans (.swap s y ys)
theorem nodup_putS {s:Str} {l:List Str} (h:l.Nodup):(putS l s).Nodup:=by
 unfold putS
 split
 ·exact h
 ·rename_i hs
  rw [(ins_perm s l).nodup_iff]
  exact List.nodup_cons.2 ⟨hs,h⟩
theorem Win.put {p:Prog} {l:List Str} {s:Str} (h:Win p l)(hs:kindOf p s=1):Win p (putS l s) :=
 ⟨nodup_putS h.nodup,fun x hx=>by
  rcases mem_putS.1 hx with rfl | hx
  ·exact hs
  ·exact h.isS x hx⟩
mutual
theorem Win.structs {p:Prog}:∀ (t:Ty) {l:List Str},Win p l→Win p (t.structs p l)
 | .mk n a q,l,h=>by
  simp only [Ty.structs]
  split
  ·exact Win.structsL a (h.put (by assumption))
  ·exact h
theorem Win.structsL {p:Prog}:∀ (ts:List Ty) {l:List Str},Win p l→Win p (Ty.structsL p ts l)
 | [],_,h=>h
 | t::ts,_,h=>Win.structsL ts (Win.structs t h)
end
def fieldsS (p:Prog):List Param→List Str→List Str
 | [],acc=>acc
 | f::fs,acc=>fieldsS p fs (f.type.structs p acc)
def contS (p:Prog)(nm:Str)(acc:List Str):List Str:=match p.decls.find? (fun d=>d.isT nm) with
 | some d=>if d.kind=1 then fieldsS p d.fields acc else acc
 | none=>acc
theorem Win.fields {p:Prog}:∀ (fs:List Param) {l:List Str},Win p l→Win p (fieldsS p fs l)
 | [],_,h=>h
 | t::ts,_,h=>Win.fields ts (Win.structs t.type h)
theorem Win.cont {p:Prog} {l:List Str} (nm:Str)(h:Win p l):Win p (contS p nm l):=by
 unfold contS
 split
 ·split
  ·exact h.fields _
  ·exact h
 ·exact h
end Go.Abs
namespace Go.Abs
set_option linter.unusedSimpArgs false
set_option linter.unusedVariables false
open Go Go.Proofs
def roundS (p:Prog):List Nat→List Str→List Str
 | [],r=>r
 | i::is,r=>roundS p is (contS p (r[i]?.getD []) r)
theorem Win.round {p:Prog}:∀ (is:List Nat) {l:List Str},Win p l→Win p (roundS p is l)
 | [],_,h=>h
 | _::is,_,h=>Win.round is (h.cont _)
end Go.Abs
namespace Go.Abs
set_option linter.unusedSimpArgs false
set_option linter.unusedVariables false
open Go Go.Proofs
set_option maxRecDepth 100000
set_option maxHeartbeats 1000000
def indexS (s:Str):List Str→Nat→Int
 | [],_=>-1
 | x::xs,i=>if s=x then i else indexS s xs (i+1)
theorem ok_Index (l:List Str)(s:Str):CallOK Tryz.prog 139 [strsV l,strV s] (intV (indexS s l 0)):=by
 refine CallB.bd (Enters.of Tryz.func139 rfl (by decide)) fun hbd=>?_
 have hl:=(strs_ok hbd.1).1
 (refine CallOK.of_body Tryz.func139 rfl (by decide) (by rw [Tryz.ntmps139];simp) ?_;rw [Tryz.ntmps139])
 (refine AWp.seqR [0,1,4,5,7,8,9,16] [] (by decide +kernel) fun K hK=>?_;simp -implicitDefEqProofs only [EV,Nat.reduceAdd,Nat.reduceEqDiff,reduceCtorEq,];refine hK _ _ ?_;clear hK K)
 refine AWp.seqK fun K1 hK1=>?_
 have fin:∀ sl bx,indexS s l 0 = -1→K1 sl bx:=by
  intro sl bx h1
  refine hK1 _ _ (AWp.weaken (sl':=[]) (bx':=[]) trivial trivial ?_)
  clear hK1 K1
  (refine AWp.seqR [0,1,4,5,7,8,9,16] [] (by decide +kernel) fun K hK=>?_;simp -implicitDefEqProofs only [EV,Nat.reduceEqDiff,reduceCtorEq,Int.reduceNeg,];refine hK _ _ ?_;clear hK K)
  rw [h1]
  exact AWp.ret ⟨_,by rw [Tryz.results139];rfl,rfl⟩
 (refine AWp.seqR [0,1,4,5,7,8,9,16] [] (by decide +kernel) fun K hK=>?_;simp -implicitDefEqProofs only [EV,Nat.reduceEqDiff,reduceCtorEq,TF76];refine hK _ _ ?_;clear hK K)
 refine AWp.block (AWp.loop (X:=Nat) (fun x=>[(8,intV x),(7,intV l.length),(0,strsV l),(1,strV s)]) (fun _=>[])
  (fun x=>x≤l.length∧indexS s (l.drop x) x=indexS s l 0) (fun x=>l.length - x) 0 ?_ ?_ ?_ ?_)
 ·exact⟨by simp,by simp⟩
 ·exact (by simp [sle,vle,sget])
 ·exact (by simp [ble,])
 rintro j ⟨hj,heq⟩
 by_cases hlt:(j:Int) < (l.length:Int)
 ·have hlt':j < l.length:=by omega
  have hy:l[j]? = some l[j]:=List.getElem?_eq_getElem hlt'
  have hdrop:l.drop j=l[j]::l.drop (j+1):=List.drop_eq_getElem_cons hlt'
  generalize l[j]=y at *
  rw [hdrop,indexS] at heq
  (refine AWp.seqR [0,1,4,5,7,8,9,16] [] (by decide +kernel) fun K hK=>?_;simp -implicitDefEqProofs only [EV,Nat.reduceEqDiff,reduceCtorEq,hlt];refine hK _ _ ?_;clear hK K)
  refine AWp.seqK fun K2 hK2=>?_
  refine AWp.condT rfl (AWp.skip (hK2 _ _ ?_))
  clear hK2 K2
  refine AWp.seqK fun K2 hK2=>?_
  refine AWp.block ?_
  (refine AWp.seqR [0,1,4,5,7,8,9,16] [] (by decide +kernel) fun K hK=>?_;simp -implicitDefEqProofs only [EV,Nat.reduceEqDiff,reduceCtorEq,];refine hK _ _ ?_;clear hK K)
  by_cases hn:s=y
  ·rw [if_pos hn] at heq
   (refine AWp.seqR [0,1,4,5,7,8,9,16] [] (by decide +kernel) fun K hK=>?_;simp -implicitDefEqProofs only [EV,Nat.reduceEqDiff,reduceCtorEq,TF9,TF76,hn])
   refine⟨by omega,_,strR_get hy,rfl,?_⟩
   simp -implicitDefEqProofs only [EV,Nat.reduceEqDiff,reduceCtorEq,]
   (refine hK _ _ ?_;clear hK K)
   refine AWp.condT rfl ?_
   (refine AWp.seqR [0,1,4,5,7,8,9,16] [] (by decide +kernel) fun K hK=>?_;simp -implicitDefEqProofs only [EV,Nat.reduceEqDiff,reduceCtorEq,];refine hK _ _ ?_;clear hK K)
   rw [← heq]
   exact AWp.ret ⟨_,by rw [Tryz.results139];rfl,rfl⟩
  ·rw [if_neg hn] at heq
   (refine AWp.seqR [0,1,4,5,7,8,9,16] [] (by decide +kernel) fun K hK=>?_;simp -implicitDefEqProofs only [EV,Nat.reduceEqDiff,reduceCtorEq,TF9,TF76,])
   refine⟨by omega,_,strR_get hy,rfl,?_⟩
   simp -implicitDefEqProofs only [EV,Nat.reduceEqDiff,reduceCtorEq,hn]
   (refine hK _ _ ?_;clear hK K)
   refine AWp.condF rfl (AWp.skip ?_)
   simp only [thenA,blockA]
   refine hK2 _ _ ?_
   clear hK2 K2
   (refine AWp.lastR [0,1,4,5,7,8,9,16] [] (by decide +kernel) fun K hK=>?_;simp -implicitDefEqProofs only [EV,Nat.reduceEqDiff,reduceCtorEq,])
   refine⟨by unfold InR;unfold lim at *;omega,?_⟩
   (refine hK _ _ ?_;clear hK K;try simp only [thenA,])
   exact⟨j+1,⟨by omega,heq⟩,by omega,by simp [sle,vle,sget],(by simp [ble,])⟩
 ·(refine AWp.seqR [0,1,4,5,7,8,9,16] [] (by decide +kernel) fun K hK=>?_;simp -implicitDefEqProofs only [EV,Nat.reduceEqDiff,reduceCtorEq,hlt];refine hK _ _ ?_;clear hK K)
  refine AWp.seqK fun K2 hK2=>?_
  refine AWp.condF rfl (AWp.exit ?_)
  simp only [thenA,blockA,if_true]
  rw [List.drop_eq_nil_of_le (by omega)] at heq
  exact fin _ _ heq.symm
def sm:Nat:=1000000
inductive Ty.Sm:Ty→Prop where
 | mk (n:Str) (a:List Ty) (p:Int):n.length≤sm→a.length≤sm→(∀ t,t∈a→Ty.Sm t)→Ty.Sm (.mk n a p)
theorem Ty.Sm.name {t:Ty} (h:t.Sm):t.name.length≤sm:=by cases h;assumption
theorem Ty.Sm.len {t:Ty} (h:t.Sm):t.args.length≤sm:=by cases h;assumption
theorem Ty.Sm.arg {t:Ty} (h:t.Sm):∀ u,u∈t.args→u.Sm:=by cases h;assumption
theorem ok_All (g:Ty→Ty)(vars:List Str)(args:List Ty)(l:List Ty)(hl:l.length≤sm)(hs:∀ t,t∈l→CallOK Tryz.prog 86 [tyV t,strsV vars,tysV args] (tyV (g t))) :
  CallOK Tryz.prog 140 [tysV l,strsV vars,tysV args] (tysV (l.map g)):=by
 (refine CallOK.of_body Tryz.func140 rfl (by decide) (by rw [Tryz.ntmps140];simp) ?_;rw [Tryz.ntmps140])
 (refine AWp.seqR [0,1,2,6,7,9,10,11,12,13] [] (by decide +kernel) fun K hK=>?_;simp -implicitDefEqProofs only [EV,Nat.reduceAdd,Nat.reduceEqDiff,reduceCtorEq,];refine hK _ _ ?_;clear hK K)
 (refine AWp.seqR [0,1,2,6,7,9,10,11,12,13] [] (by decide +kernel) fun K hK=>?_;simp -implicitDefEqProofs only [EV,Nat.reduceEqDiff,reduceCtorEq,];refine hK _ _ ?_;clear hK K)
 refine AWp.promote 7 3 7 rfl ?_
 refine AWp.seqK fun K1 hK1=>?_
 have fin:∀ sl bx,sle sl [(7,.acc 7)]→ble bx [(7,.rows 3 (tyR (l.map g)))]→K1 sl bx:=by
  intro sl bx h1 h2
  refine hK1 _ _ (AWp.weaken h1 h2 ?_)
  clear hK1 K1
  (refine AWp.seqR [0,1,2,6,7,9,10,11,12,13] [] (by decide +kernel) fun K hK=>?_;simp -implicitDefEqProofs only [EV,Nat.reduceEqDiff,reduceCtorEq,];refine hK _ _ ?_;clear hK K)
  exact AWp.ret ⟨_,by rw [Tryz.results140];rfl,rfl⟩
 (refine AWp.seqR [0,1,2,6,7,9,10,11,12,13] [] (by decide +kernel) fun K hK=>?_;simp -implicitDefEqProofs only [EV,Nat.reduceEqDiff,reduceCtorEq,TF23];refine hK _ _ ?_;clear hK K)
 refine AWp.block (AWp.loop (X:=Nat) (fun x=>[(12,intV x),(11,intV l.length),(10,tysV l),(1,strsV vars),(2,tysV args),(7,.acc 7)]) (fun x=>[(7,.rows 3 (tyR ((l.take x).map g)))])
  (fun x=>x≤l.length) (fun x=>l.length - x) 0 ?_ ?_ ?_ ?_)
 ·simp
 ·exact (by simp [sle,vle,sget])
 ·simp [ble,bget,tyR_nil]
 rintro j hj
 by_cases hlt:(j:Int) < (l.length:Int)
 ·have hlt':j < l.length:=by omega
  have hy:l[j]? = some l[j]:=List.getElem?_eq_getElem hlt'
  have hmem:l[j]∈l:=List.getElem_mem hlt'
  have htake:l.take (j+1)=l.take j++[l[j]]:=List.take_succ_eq_append_getElem hlt'
  generalize l[j]=y at *
  (refine AWp.seqR [0,1,2,6,7,9,10,11,12,13] [] (by decide +kernel) fun K hK=>?_;simp -implicitDefEqProofs only [EV,Nat.reduceEqDiff,reduceCtorEq,hlt];refine hK _ _ ?_;clear hK K)
  refine AWp.seqK fun K2 hK2=>?_
  refine AWp.condT rfl (AWp.skip (hK2 _ _ ?_))
  clear hK2 K2
  refine AWp.seqK fun K2 hK2=>?_
  refine AWp.block ?_
  (refine AWp.seqR [0,1,2,6,7,9,10,11,12,13] [] (by decide +kernel) fun K hK=>?_;simp -implicitDefEqProofs only [EV,Nat.reduceEqDiff,reduceCtorEq,TF23,TF25])
  refine⟨by omega,tyC y,tyR_get hy,rfl,?_⟩
  simp -implicitDefEqProofs only [EV,Nat.reduceAdd,Nat.reduceEqDiff,Nat.reduceBEq,Nat.reduceLeDiff,reduceCtorEq,TF25]
  (refine hK _ _ ?_;clear hK K)
  (refine AWp.lastR [0,1,2,6,7,9,10,11,12,13] [] (by decide +kernel) fun K hK=>?_;simp -implicitDefEqProofs only [EV,Nat.reduceAdd,Nat.reduceEqDiff,Nat.reduceBEq,Nat.reduceLeDiff,reduceCtorEq,TF23,TF25])
  refine⟨tyV (g y),.inl ⟨_,rfl,hs y hmem,rfl⟩,?_⟩
  simp -implicitDefEqProofs only [EV,Nat.reduceAdd,Nat.reduceLeDiff,Nat.reduceMul,]
  refine⟨by simp,by rw [List.length_map,List.length_take];unfold lim sm at *;omega,?_⟩
  (refine hK _ _ ?_;clear hK K;try simp only [thenA,blockA])
  refine hK2 _ _ ?_
  clear hK2 K2
  (refine AWp.lastR [0,1,2,6,7,9,10,11,12,13] [] (by decide +kernel) fun K hK=>?_;simp -implicitDefEqProofs only [EV,Nat.reduceEqDiff,reduceCtorEq,])
  refine⟨by unfold InR;unfold sm at *;omega,?_⟩
  (refine hK _ _ ?_;clear hK K;try simp only [thenA,])
  refine⟨j+1,by omega,by omega,by simp [sle,vle,sget],?_⟩
  rw [htake]
  simp [ble,bget,tyR_map,tyC]
 ·(refine AWp.seqR [0,1,2,6,7,9,10,11,12,13] [] (by decide +kernel) fun K hK=>?_;simp -implicitDefEqProofs only [EV,Nat.reduceEqDiff,reduceCtorEq,hlt];refine hK _ _ ?_;clear hK K)
  refine AWp.seqK fun K2 hK2=>?_
  refine AWp.condF rfl (AWp.exit ?_)
  simp only [thenA,blockA,if_true]
  rw [List.take_of_length_le (by omega)]
  exact fin _ _ (by simp [sle,vle,sget]) (by simp [ble,bget,])
mutual
def Ty.subst (vars:List Str)(args:List Ty):Ty→Ty
 | .mk n a p=>if a.length=0∧0≤indexS n vars 0∧indexS n vars 0 < args.length then .mk (args[(indexS n vars 0).toNat]?.getD default).name (args[(indexS n vars 0).toNat]?.getD default).args p else .mk n (Ty.substL vars args a) p
def Ty.substL (vars:List Str)(args:List Ty):List Ty→List Ty
 | []=>[]
 | t::ts=>t.subst vars args::Ty.substL vars args ts
end
theorem substL_map (vars:List Str)(args:List Ty):∀ l,Ty.substL vars args l=l.map (Ty.subst vars args)
 | []=>by rw [Ty.substL];rfl
 | t::ts=>by rw [Ty.substL,substL_map vars args ts];rfl
theorem subst_eq (vars:List Str)(args:List Ty)(t:Ty):t.subst vars args=if t.args.length=0∧0≤indexS t.name vars 0∧indexS t.name vars 0 < args.length then .mk (args[(indexS t.name vars 0).toNat]?.getD default).name (args[(indexS t.name vars 0).toNat]?.getD default).args t.pos else .mk t.name (t.args.map (Ty.subst vars args)) t.pos:=by
 cases t with
 | mk n a p=>rw [Ty.subst,substL_map];rfl
theorem subst_nil:∀ t:Ty,t.subst [] []=t:=by
 intro t
 induction t using Ty.induct with
 | h t ih =>
 rw [subst_eq,if_neg (by simp [indexS]),List.map_congr_left ih]
 cases t;simp [Ty.name,Ty.args,Ty.pos]
theorem ok_SubstG (vars:List Str)(args:List Ty)(hC:∀ (i:Nat)(u:Ty),args[i]? = some u→CallOK Tryz.prog 132 [tyV u] (tyV u)):∀ t:Ty,t.Sm→CallOK Tryz.prog 86 [tyV t,strsV vars,tysV args] (tyV (t.subst vars args)):=by
 intro t
 induction t using Ty.induct with
 | h t ih =>
 intro hsm
 refine CallB.bd (Enters.of Tryz.func86 rfl (by decide)) fun hbd=>?_
 have hv:=(strs_ok hbd.2.1).1
 have ha:=(tys_ok hbd.2.2.1).1
 have heqn:=subst_eq vars args t
 have hall:=ok_All (Ty.subst vars args) vars args t.args hsm.len (fun u hu=>ih u hu (hsm.arg u hu))
 (refine CallOK.of_body Tryz.func86 rfl (by decide) (by rw [Tryz.ntmps86];simp) ?_;rw [Tryz.ntmps86])
 (refine AWp.seqR [0,1,2,3,6,7,8,26] [] (by decide +kernel) fun K hK=>?_;simp -implicitDefEqProofs only [EV,Nat.reduceAdd,Nat.reduceEqDiff,Nat.reduceBEq,Nat.reduceLeDiff,reduceCtorEq,TF25];refine hK _ _ ?_;clear hK K)
 refine AWp.seqK fun K1 hK1=>?_
 (refine AWp.seqR [0,1,2,3,6,7,8,26] [] (by decide +kernel) fun K hK=>?_;simp -implicitDefEqProofs only [EV,Nat.reduceAdd,Nat.reduceEqDiff,reduceCtorEq,TF9,TF25])
 refine⟨intV (indexS t.name vars 0),.inl ⟨_,rfl,ok_Index vars t.name,rfl⟩,?_⟩
 simp -implicitDefEqProofs only [EV,]
 (refine hK _ _ ?_;clear hK K)
 generalize indexS t.name vars 0=i at *
 have fin:(t.args.length=0∧0≤i∧i < args.length)=False→∀ sl bx,sle sl [(1,strsV vars),(2,tysV args),(3,.box 3 0),(6,.box 6 0)]→ble bx [(3,.cells ((tyC t).map .d)),(6,.cells [.d (.str []),.d .nil,.d (.int .i64 0)])]→K1 sl bx:=by
  intro hc sl bx h1 h2
  refine hK1 _ _ (AWp.weaken h1 h2 ?_)
  clear hK1 K1
  rw [if_neg (by rw [hc];exact id)] at heqn
  (refine AWp.seqR [0,1,2,3,6,7,8,26] [] (by decide +kernel) fun K hK=>?_;simp -implicitDefEqProofs only [EV,Nat.reduceAdd,Nat.reduceEqDiff,TF23,TF25])
  refine⟨tysV (t.args.map (Ty.subst vars args)),.inl ⟨_,rfl,hall,rfl⟩,?_⟩
  simp -implicitDefEqProofs only [EV,Nat.reduceAdd,Nat.reduceEqDiff,Nat.reduceLeDiff,reduceCtorEq,]
  (refine hK _ _ ?_;clear hK K)
  (refine AWp.seqR [0,1,2,3,6,7,8,26] [] (by decide +kernel) fun K hK=>?_;simp -implicitDefEqProofs only [EV,Nat.reduceAdd,Nat.reduceEqDiff,reduceCtorEq,TF25];refine hK _ _ ?_;clear hK K)
  rw [heqn]
  exact AWp.ret ⟨_,by rw [Tryz.results86];rfl,rfl⟩
 by_cases h1:(t.args.length:Int)=0
 ·by_cases h2:0≤i
  ·by_cases h3:i < (args.length:Int)
   ·rw [if_pos ⟨by omega,h2,h3⟩] at heqn
    have hx:args[i.toNat]? = some args[i.toNat]:=List.getElem?_eq_getElem (by omega)
    rw [hx,Option.getD_some] at heqn
    generalize args[i.toNat]=u at *
    (refine AWp.seqR [0,1,2,3,6,7,8,26] [] (by decide +kernel) fun K hK=>?_;simp -implicitDefEqProofs only [EV,Nat.reduceEqDiff,reduceCtorEq,TF23,TF25,h1,h2,h3];refine hK _ _ ?_;clear hK K)
    refine AWp.condT rfl ?_
    (refine AWp.seqR [0,1,2,3,6,7,8,26] [] (by decide +kernel) fun K hK=>?_;simp -implicitDefEqProofs only [EV,Nat.reduceEqDiff,reduceCtorEq,TF23,TF25])
    refine⟨h2,tyC u,tyR_get hx,rfl,?_⟩
    simp -implicitDefEqProofs only [EV,Nat.reduceAdd,Nat.reduceEqDiff,Nat.reduceBEq,Nat.reduceLeDiff,reduceCtorEq,TF25]
    refine⟨tyV u,.inl ⟨_,rfl,hC _ u hx,rfl⟩,?_⟩
    simp -implicitDefEqProofs only [EV,Nat.reduceAdd,Nat.reduceEqDiff,reduceCtorEq,]
    (refine hK _ _ ?_;clear hK K)
    (refine AWp.seqR [0,1,2,3,6,7,8,26] [] (by decide +kernel) fun K hK=>?_;simp -implicitDefEqProofs only [EV,Nat.reduceAdd,Nat.reduceEqDiff,reduceCtorEq,TF3,TF25];refine hK _ _ ?_;clear hK K)
    (refine AWp.seqR [0,1,2,3,6,7,8,26] [] (by decide +kernel) fun K hK=>?_;simp -implicitDefEqProofs only [EV,Nat.reduceAdd,Nat.reduceEqDiff,reduceCtorEq,TF25];refine hK _ _ ?_;clear hK K)
    rw [heqn]
    exact AWp.ret ⟨_,by rw [Tryz.results86];rfl,rfl⟩
   ·(refine AWp.seqR [0,1,2,3,6,7,8,26] [] (by decide +kernel) fun K hK=>?_;simp -implicitDefEqProofs only [EV,Nat.reduceEqDiff,reduceCtorEq,TF23,TF25,h1,h2,h3];refine hK _ _ ?_;clear hK K)
    refine AWp.condF rfl (AWp.skip ?_)
    exact fin (by simp [h3]) _ _ (by simp [sle,vle,sget]) (by simp [ble,bget,tyC,])
  ·(refine AWp.seqR [0,1,2,3,6,7,8,26] [] (by decide +kernel) fun K hK=>?_;simp -implicitDefEqProofs only [EV,Nat.reduceEqDiff,reduceCtorEq,TF23,TF25,h1,h2];refine hK _ _ ?_;clear hK K)
   refine AWp.condF rfl (AWp.skip ?_)
   exact fin (by simp [h2]) _ _ (by simp [sle,vle,sget]) (by simp [ble,bget,tyC,])
 ·(refine AWp.seqR [0,1,2,3,6,7,8,26] [] (by decide +kernel) fun K hK=>?_;simp -implicitDefEqProofs only [EV,Nat.reduceEqDiff,reduceCtorEq,TF23,TF25,h1];refine hK _ _ ?_;clear hK K)
  refine AWp.condF rfl (AWp.skip ?_)
  exact fin (by simp only [eq_iff_iff,iff_false];omega) _ _ (by simp [sle,vle,sget]) (by simp [ble,bget,tyC,])
theorem ok_Clone (t:Ty)(h:t.Sm):CallOK Tryz.prog 132 [tyV t] (tyV t):=by
 (refine CallOK.of_body Tryz.func132 rfl (by decide) (by rw [Tryz.ntmps132];simp) ?_;rw [Tryz.ntmps132])
 (refine AWp.seqR [0,1,2] [] (by decide +kernel) fun K hK=>?_;simp -implicitDefEqProofs only [EV,Nat.reduceEqDiff,Nat.reduceBEq,Nat.reduceLeDiff,reduceCtorEq,TF25];refine hK _ _ ?_;clear hK K)
 (refine AWp.seqR [0,1,2] [] (by decide +kernel) fun K hK=>?_;simp -implicitDefEqProofs only [EV,Nat.reduceAdd,Nat.reduceEqDiff,reduceCtorEq,TF25])
 have hs:=ok_SubstG [] [] (by simp) t h
 rw [subst_nil] at hs
 refine⟨tyV t,.inl ⟨_,rfl,hs,rfl⟩,?_⟩
 simp -implicitDefEqProofs only [EV,Nat.reduceAdd,Nat.reduceEqDiff,reduceCtorEq,]
 (refine hK _ _ ?_;clear hK K)
 exact AWp.ret ⟨_,by rw [Tryz.results132];rfl,rfl⟩
theorem ok_Subst (vars:List Str)(args:List Ty)(ha:∀ u,u∈args→u.Sm)(t:Ty)(h:t.Sm):CallOK Tryz.prog 86 [tyV t,strsV vars,tysV args] (tyV (t.subst vars args)) :=
 ok_SubstG vars args (fun i u hu=>ok_Clone u (ha u (List.mem_iff_getElem?.2 ⟨i,hu⟩))) t h
end Go.Abs
namespace Go.Abs
set_option linter.unusedSimpArgs false
set_option linter.unusedVariables false
open Go Go.Proofs
set_option maxRecDepth 100000
set_option maxHeartbeats 1000000
inductive Ex.Sm:Ex→Prop where
 | mk (k:Int) (n:Str) (t:Ty) (a:List Ty) (ks:List Ex) (p:Int):n.length≤sm→t.Sm→a.length≤sm→(∀ t,t∈a→t.Sm)→ks.length≤sm→(∀ e,e∈ks→Ex.Sm e)→Ex.Sm (.mk k n t a ks p)
theorem Ex.Sm.name {e:Ex} (h:e.Sm):e.name.length≤sm:=by cases h;assumption
theorem Ex.Sm.type {e:Ex} (h:e.Sm):e.type.Sm:=by cases h;assumption
theorem Ex.Sm.targs {e:Ex} (h:e.Sm):e.targs.length≤sm∧∀ t,t∈e.targs→t.Sm:=by cases h;exact⟨by assumption,by assumption⟩
theorem Ex.Sm.kids {e:Ex} (h:e.Sm):e.kids.length≤sm∧∀ t,t∈e.kids→t.Sm:=by cases h;exact⟨by assumption,by assumption⟩
def Ex.sub1 (vars:List Str)(args:List Ty)(e:Ex):Ex:=.mk e.kind e.name (e.type.subst vars args) (e.targs.map (Ty.subst vars args)) e.kids e.pos
theorem ok_Sub1 (vars:List Str)(args:List Ty)(ha:∀ u,u∈args→u.Sm)(e:Ex)(ht:e.type.Sm)(hl:e.targs.length≤sm)(hta:∀ t,t∈e.targs→t.Sm) :
  CallOK Tryz.prog 152 [exV e,.dptr [.slice (strR vars)] 0,.dptr [.slice (tyR args)] 0] (exV (e.sub1 vars args)):=by
 (refine CallOK.of_body Tryz.func152 rfl (by decide) (by rw [Tryz.ntmps152];simp) ?_;rw [Tryz.ntmps152])
 (refine AWp.seqR [0,1,2,3,4] [] (by decide +kernel) fun K hK=>?_;simp -implicitDefEqProofs only [EV,Nat.reduceAdd,Nat.reduceEqDiff,Nat.reduceBEq,Nat.reduceLeDiff,reduceCtorEq,TF28];refine hK _ _ ?_;clear hK K)
 (refine AWp.seqD [0,1,2,3,4] [] 11 mixed (by decide +kernel) (by decide +kernel) fun K hK=>?_;simp -implicitDefEqProofs only [EV,Nat.reduceAdd,Nat.reduceEqDiff,Nat.reduceLeDiff,reduceCtorEq,TF23,TF25,TF28,TF76])
 refine⟨tyV (e.type.subst vars args),.inl ⟨_,rfl,ok_Subst vars args ha e.type ht,rfl⟩,?_⟩
 simp -implicitDefEqProofs only [EV,Nat.reduceAdd,Nat.reduceEqDiff,Nat.reduceLeDiff,reduceCtorEq,TF23,TF28]
 refine⟨tysV (e.targs.map (Ty.subst vars args)),.inl ⟨_,rfl,ok_All (Ty.subst vars args) vars args e.targs hl (fun t h=>ok_Subst vars args ha t (hta t h)),rfl⟩,?_⟩
 simp -implicitDefEqProofs only [EV,Nat.reduceAdd,Nat.reduceEqDiff,Nat.reduceLeDiff,reduceCtorEq,]
 (refine hK _ _ ?_;clear hK K)
 (refine AWp.seqR [0,1,2,3,4] [] (by decide +kernel) fun K hK=>?_;simp -implicitDefEqProofs only [EV,Nat.reduceAdd,Nat.reduceEqDiff,reduceCtorEq,TF28];refine hK _ _ ?_;clear hK K)
 exact AWp.ret ⟨_,by rw [Tryz.results152];rfl,rfl⟩
mutual
theorem SV.sub_closed (k:Nat)(f:Rep1):∀ {x:SV},x.closed=true→x.sub k f=x
 | .undef,_=>rfl
 | .d _,_=>rfl
 | .dptr _ _,_=>rfl
 | .agg cs,h=>by simp only [SV.closed] at h;simp only [SV.sub,SV.subL_closed k f h]
 | .tuple cs,h=>by simp only [SV.closed] at h;simp only [SV.sub,SV.subL_closed k f h]
 | .clo _ cs,h=>by simp only [SV.closed] at h;simp only [SV.sub,SV.subL_closed k f h]
 | .vptr cs _,h=>by simp only [SV.closed] at h;simp only [SV.sub,SV.subL_closed k f h]
 | .box _ _,h=>by simp [SV.closed] at h
 | .acc _,h=>by simp [SV.closed] at h
 | .aptr _ _ _,h=>by simp [SV.closed] at h
 | .mp _,h=>by simp [SV.closed] at h
 | .yld _,h=>rfl
theorem SV.subL_closed (k:Nat)(f:Rep1):∀ {xs:List SV},SV.closedAll xs=true→SV.subL k f xs=xs
 | [],_=>rfl
 | c::cs,h=>by
  simp only [SV.closedAll,Bool.and_eq_true] at h
  simp only [SV.subL,SV.sub_closed k f h.1,SV.subL_closed k f h.2]
end
def Ex.kidded (e:Ex)(ks:List Ex):Ex:=.mk e.kind e.name e.type e.targs ks e.pos
mutual
def Ex.mapped (g:Ex→Ex):Ex→Ex
 | .mk k n t a ks p=>g (.mk k n t a (Ex.mappedL g ks) p)
def Ex.mappedL (g:Ex→Ex):List Ex→List Ex
 | []=>[]
 | e::es=>e.mapped g::Ex.mappedL g es
end
theorem mappedL_map (g:Ex→Ex):∀ l,Ex.mappedL g l=l.map (Ex.mapped g)
 | []=>by rw [Ex.mappedL];rfl
 | t::ts=>by rw [Ex.mappedL,mappedL_map g ts];rfl
theorem mapped_eq (g:Ex→Ex)(e:Ex):e.mapped g=g (e.kidded (e.kids.map (Ex.mapped g))):=by
 cases e with
 | mk k n t a ks p=>rw [Ex.mapped,mappedL_map];rfl
theorem ok_mapped (f:FuncId)(caps:List SV)(hco:coerceL [] caps=some caps)(hcl:SV.closedAll caps=true)(g:Ex→Ex)
  (hg:∀ (e:Ex) (ks:List Ex),e.Sm→CallOK Tryz.prog f (exV (e.kidded ks)::caps) (exV (g (e.kidded ks)))) :
  ∀ e:Ex,e.Sm→CallOK Tryz.prog 151 [exV e,.clo f caps] (exV (e.mapped g)):=by
 intro e
 induction e using Ex.induct with
 | h e ih =>
 intro hsm
 have heqn:=mapped_eq g e
 have hl:=hsm.kids.1
 have hh:∀ k,SV.hasAny k caps=false:=fun k=>SV.not_hasAny_of_closed k hcl
 have hff:(false=true)=False:=by simp
 rw [heqn]
 (refine CallOK.of_body Tryz.func151 rfl (by decide) (by rw [Tryz.ntmps151];simp) ?_;rw [Tryz.ntmps151])
 (refine AWp.seqR [0,1,2,4,5,7,9,10,11,12] [] (by decide +kernel) fun K hK=>?_;simp -implicitDefEqProofs only [EV,Nat.reduceAdd,Nat.reduceEqDiff,Nat.reduceBEq,Nat.reduceLeDiff,reduceCtorEq,TF28,hh];refine hK _ _ ?_;clear hK K)
 (refine AWp.seqR [0,1,2,4,5,7,9,10,11,12] [] (by decide +kernel) fun K hK=>?_;simp -implicitDefEqProofs only [EV,Nat.reduceEqDiff,reduceCtorEq,];refine hK _ _ ?_;clear hK K)
 refine AWp.promote 5 8 5 rfl ?_
 simp only [purge1,spurge,SV.has,hh,Bool.false_eq_true,if_false]
 refine AWp.seqK fun K1 hK1=>?_
 have fin:∀ sl bx,sle sl [(1,.clo f caps),(2,.box 2 0),(4,.box 4 0),(5,.acc 5)] →
   ble bx [(5,.rows 8 (exR (e.kids.map (Ex.mapped g)))),(2,.cells ((exC e).map .d)),(4,.cells [.d (.int .i64 0),.d (.str []),.d (.str []),.d .nil,.d (.int .i64 0),.d .nil,.d .nil,.d (.int .i64 0)])]→K1 sl bx:=by
  intro sl bx h1 h2
  refine hK1 _ _ (AWp.weaken h1 h2 ?_)
  clear hK1 K1 h1 h2
  refine AWp.publish 5 rfl ?_
  refine AWp.weaken (sl':=[(1,.clo f caps),(2,.box 2 0),(4,.box 4 0),(5,.d (.slice (exR (e.kids.map (Ex.mapped g)))))])
   (bx':=[(2,.cells ((exC e).map .d)),(4,.cells [.d (.int .i64 0),.d (.str []),.d (.str []),.d .nil,.d (.int .i64 0),.d .nil,.d .nil,.d (.int .i64 0)])])
   (by simp [subSl,SV.sub,sle,vle,sget,SV.subL_closed _ _ hcl]) (by simp [subBx,BoxC.sub,SV.subL,SV.sub,ble,bget,berase,exC]) ?_
  (refine AWp.seqR [0,1,2,4,5,7,9,10,11,12] [] (by decide +kernel) fun K hK=>?_;simp -implicitDefEqProofs only [EV,Nat.reduceAdd,Nat.reduceEqDiff,Nat.reduceLeDiff,reduceCtorEq,TF26,TF28];refine hK _ _ ?_;clear hK K)
  (refine AWp.seqR [0,1,2,4,5,7,9,10,11,12] [] (by decide +kernel) fun K hK=>?_;simp -implicitDefEqProofs only [EV,Nat.reduceAdd,Nat.reduceEqDiff,reduceCtorEq,TF28,hco])
  refine⟨exV (g (e.kidded (e.kids.map (Ex.mapped g)))),.inl ⟨_,rfl,hg e _ hsm,rfl⟩,?_⟩
  simp -implicitDefEqProofs only [EV,Nat.reduceAdd,Nat.reduceEqDiff,reduceCtorEq,]
  (refine hK _ _ ?_;clear hK K)
  exact AWp.ret ⟨_,by rw [Tryz.results151];rfl,rfl⟩
 (refine AWp.seqR [0,1,2,4,5,7,9,10,11,12] [] (by decide +kernel) fun K hK=>?_;simp -implicitDefEqProofs only [EV,Nat.reduceEqDiff,Nat.reduceBEq,reduceCtorEq,TF26,TF28];refine hK _ _ ?_;clear hK K)
 refine AWp.block (AWp.loop (X:=Nat) (fun x=>[(11,intV x),(10,intV e.kids.length),(9,.d (.slice (exR e.kids))),(1,.clo f caps),(2,.box 2 0),(4,.box 4 0),(5,.acc 5)])
  (fun x=>[(5,.rows 8 (exR ((e.kids.take x).map (Ex.mapped g)))),(2,.cells ((exC e).map .d)),(4,.cells [.d (.int .i64 0),.d (.str []),.d (.str []),.d .nil,.d (.int .i64 0),.d .nil,.d .nil,.d (.int .i64 0)])])
  (fun x=>x≤e.kids.length) (fun x=>e.kids.length - x) 0 ?_ ?_ ?_ ?_)
 ·simp
 ·exact (by simp [sle,vle,sget])
 ·simp [ble,bget,exR_nil,exC]
 rintro j hj
 by_cases hlt:(j:Int) < (e.kids.length:Int)
 ·have hlt':j < e.kids.length:=by omega
  have hy:e.kids[j]? = some e.kids[j]:=List.getElem?_eq_getElem hlt'
  have hmem:e.kids[j]∈e.kids:=List.getElem_mem hlt'
  have htake:e.kids.take (j+1)=e.kids.take j++[e.kids[j]]:=List.take_succ_eq_append_getElem hlt'
  generalize e.kids[j]=y at *
  (refine AWp.seqR [0,1,2,4,5,7,9,10,11,12] [] (by decide +kernel) fun K hK=>?_;simp -implicitDefEqProofs only [EV,Nat.reduceEqDiff,reduceCtorEq,hlt];refine hK _ _ ?_;clear hK K)
  refine AWp.seqK fun K2 hK2=>?_
  refine AWp.condT rfl (AWp.skip (hK2 _ _ ?_))
  clear hK2 K2
  refine AWp.seqK fun K2 hK2=>?_
  refine AWp.block ?_
  (refine AWp.seqR [0,1,2,4,5,7,9,10,11,12] [] (by decide +kernel) fun K hK=>?_;simp -implicitDefEqProofs only [EV,Nat.reduceEqDiff,reduceCtorEq,TF26,TF28])
  refine⟨by omega,exC y,exR_get hy,rfl,?_⟩
  simp -implicitDefEqProofs only [EV,Nat.reduceAdd,Nat.reduceEqDiff,Nat.reduceBEq,Nat.reduceLeDiff,reduceCtorEq,TF28,hh]
  (refine hK _ _ ?_;clear hK K)
  (refine AWp.lastR [0,1,2,4,5,7,9,10,11,12] [] (by decide +kernel) fun K hK=>?_;simp -implicitDefEqProofs only [EV,Nat.reduceAdd,Nat.reduceEqDiff,Nat.reduceBEq,Nat.reduceLeDiff,reduceCtorEq,TF26,TF28,hco,hh])
  refine⟨exV (y.mapped g),.inl ⟨_,rfl,ih y hmem (hsm.kids.2 y hmem),rfl⟩,?_⟩
  simp -implicitDefEqProofs only [EV,Nat.reduceAdd,Nat.reduceLeDiff,Nat.reduceMul,]
  refine⟨by simp,by rw [List.length_map,List.length_take];unfold lim sm at *;omega,?_⟩
  (refine hK _ _ ?_;clear hK K;try simp only [thenA,blockA])
  refine hK2 _ _ ?_
  clear hK2 K2
  (refine AWp.lastR [0,1,2,4,5,7,9,10,11,12] [] (by decide +kernel) fun K hK=>?_;simp -implicitDefEqProofs only [EV,Nat.reduceEqDiff,reduceCtorEq,])
  refine⟨by unfold InR;unfold sm at *;omega,?_⟩
  (refine hK _ _ ?_;clear hK K;try simp only [thenA,])
  refine⟨j+1,by omega,by omega,by simp [sle,vle,sget],?_⟩
  rw [htake]
  simp [ble,bget,exR_map,exC]
 ·(refine AWp.seqR [0,1,2,4,5,7,9,10,11,12] [] (by decide +kernel) fun K hK=>?_;simp -implicitDefEqProofs only [EV,Nat.reduceEqDiff,reduceCtorEq,hlt];refine hK _ _ ?_;clear hK K)
  refine AWp.seqK fun K2 hK2=>?_
  refine AWp.condF rfl (AWp.exit ?_)
  simp only [thenA,blockA,if_true]
  rw [List.take_of_length_le (by omega)]
  exact fin _ _ (by simp [sle,vle,sget]) (by simp [ble,bget,exC,])
def Ex.subst (vars:List Str)(args:List Ty):Ex→Ex:=Ex.mapped (Ex.sub1 vars args)
theorem ok_ESubst (vars:List Str)(args:List Ty)(ha:∀ u,u∈args→u.Sm)(e:Ex)(he:e.Sm):CallOK Tryz.prog 101 [exV e,strsV vars,tysV args] (exV (e.subst vars args)):=by
 have hm:=ok_mapped 152 [.dptr [.slice (strR vars)] 0,.dptr [.slice (tyR args)] 0] rfl rfl (Ex.sub1 vars args)
  (fun e ks h=>ok_Sub1 vars args ha (e.kidded ks) h.type h.targs.1 h.targs.2) e he
 (refine CallOK.of_body Tryz.func101 rfl (by decide) (by rw [Tryz.ntmps101];simp) ?_;rw [Tryz.ntmps101])
 (refine AWp.seqR [0,1,2,3,4,5,6] [] (by decide +kernel) fun K hK=>?_;simp -implicitDefEqProofs only [EV,Nat.reduceAdd,Nat.reduceEqDiff,Nat.reduceBEq,Nat.reduceLeDiff,reduceCtorEq,TF28];refine hK _ _ ?_;clear hK K)
 refine AWp.freeze 4 rfl rfl ?_
 refine AWp.freeze 5 rfl rfl ?_
 refine AWp.weaken (sl':=[(3,.box 3 0),(4,.dptr [.slice (strR vars)] 0),(5,.dptr [.slice (tyR args)] 0),(6,.box 6 0)])
  (bx':=[(3,.cells ((exC e).map .d)),(6,.cells [.d (.int .i64 0),.d (.str []),.d (.str []),.d .nil,.d (.int .i64 0),.d .nil,.d .nil,.d (.int .i64 0)])])
  (by simp [subSl,SV.sub,SV.subL,sle,vle,sget]) (by simp [subBx,BoxC.sub,SV.subL,SV.sub,ble,bget,berase,exC]) ?_
 (refine AWp.seqR [0,1,2,3,4,5,6] [] (by decide +kernel) fun K hK=>?_;simp -implicitDefEqProofs only [EV,Nat.reduceAdd,Nat.reduceEqDiff,TF28])
 refine⟨exV (e.subst vars args),.inl ⟨_,rfl,hm,rfl⟩,?_⟩
 simp -implicitDefEqProofs only [EV,Nat.reduceAdd,Nat.reduceEqDiff,reduceCtorEq,]
 (refine hK _ _ ?_;clear hK K)
 exact AWp.ret ⟨_,by rw [Tryz.results101];rfl,rfl⟩
theorem esubst_nil:∀ e:Ex,e.subst [] []=e:=by
 intro e
 induction e using Ex.induct with
 | h e ih =>
 have h1:e.kids.map (Ex.mapped (Ex.sub1 [] []))=e.kids:=by
  have:=List.map_congr_left (f:=Ex.mapped (Ex.sub1 [] [])) (g:=id) ih
  rw [this];simp
 have h2:∀ l:List Ty,l.map (Ty.subst [] [])=l:=fun l=>by rw [List.map_congr_left (g:=id) fun t _=>subst_nil t];simp
 show Ex.mapped (Ex.sub1 [] []) e=e
 rw [mapped_eq,h1]
 cases e
 simp [Ex.sub1,Ex.kidded,Ex.kind,Ex.name,Ex.type,Ex.targs,Ex.kids,Ex.pos,subst_nil,h2]
theorem ok_EClone (e:Ex)(h:e.Sm):CallOK Tryz.prog 55 [exV e] (exV e):=by
 (refine CallOK.of_body Tryz.func55 rfl (by decide) (by rw [Tryz.ntmps55];simp) ?_;rw [Tryz.ntmps55])
 (refine AWp.seqR [0,1,2] [] (by decide +kernel) fun K hK=>?_;simp -implicitDefEqProofs only [EV,Nat.reduceEqDiff,Nat.reduceBEq,Nat.reduceLeDiff,reduceCtorEq,TF28];refine hK _ _ ?_;clear hK K)
 (refine AWp.seqR [0,1,2] [] (by decide +kernel) fun K hK=>?_;simp -implicitDefEqProofs only [EV,Nat.reduceAdd,Nat.reduceEqDiff,reduceCtorEq,TF28])
 have hs:=ok_ESubst [] [] (by simp) e h
 rw [esubst_nil] at hs
 refine⟨exV e,.inl ⟨_,rfl,hs,rfl⟩,?_⟩
 simp -implicitDefEqProofs only [EV,Nat.reduceAdd,Nat.reduceEqDiff,reduceCtorEq,]
 (refine hK _ _ ?_;clear hK K)
 exact AWp.ret ⟨_,by rw [Tryz.results55];rfl,rfl⟩
end Go.Abs
namespace Go.Abs
set_option linter.unusedSimpArgs false
set_option linter.unusedVariables false
open Go Go.Proofs
set_option maxRecDepth 100000
set_option maxHeartbeats 1000000
structure Formal.Sm (f:Formal):Prop where
 name:f.name.length≤sm
 bound:f.bound.Sm
structure Param.Sm (f:Param):Prop where
 name:f.name.length≤sm
 type:f.type.Sm
structure Sig.Sm (s:Sig):Prop where
 name:s.name.length≤sm
 formals:s.formals.length≤sm∧∀ t,t∈s.formals→t.Sm
 params:s.params.length≤sm∧∀ t,t∈s.params→t.Sm
 result:s.result.Sm
structure Decl.Sm (d:Decl):Prop where
 name:d.name.length≤sm
 formals:d.formals.length≤sm∧∀ t,t∈d.formals→t.Sm
 fields:d.fields.length≤sm∧∀ t,t∈d.fields→t.Sm
 sigs:d.sigs.length≤sm∧∀ t,t∈d.sigs→t.Sm
 recv:d.recv.length≤sm
 vars:d.vars.length≤sm∧∀ t,t∈d.vars→t.length≤sm
 sig:d.sig.Sm
 body:d.body.Sm
structure Prog.Sm (p:Prog):Prop where
 decls:p.decls.length≤sm∧∀ t,t∈p.decls→t.Sm
 main:p.main.Sm
theorem ok_cloneFormal (x:Formal)(h:x.Sm):CallOK Tryz.prog 165 [foV x] (foV x):=by
 (refine CallOK.of_body Tryz.func165 rfl (by decide) (by rw [Tryz.ntmps165];simp) ?_;rw [Tryz.ntmps165])
 (refine AWp.seqR [0,1,2] [] (by decide +kernel) fun K hK=>?_;simp -implicitDefEqProofs only [EV,Nat.reduceEqDiff,Nat.reduceBEq,Nat.reduceLeDiff,reduceCtorEq,TF84];refine hK _ _ ?_;clear hK K)
 (refine AWp.seqR [0,1,2] [] (by decide +kernel) fun K hK=>?_;simp -implicitDefEqProofs only [EV,Nat.reduceAdd,Nat.reduceEqDiff,Nat.reduceLeDiff,reduceCtorEq,TF25,TF84])
 refine⟨tyV x.bound,.inl ⟨_,rfl,ok_Clone x.bound h.bound,rfl⟩,?_⟩
 simp -implicitDefEqProofs only [EV,Nat.reduceAdd,Nat.reduceEqDiff,Nat.reduceLeDiff,reduceCtorEq,]
 (refine hK _ _ ?_;clear hK K)
 (refine AWp.seqR [0,1,2] [] (by decide +kernel) fun K hK=>?_;simp -implicitDefEqProofs only [EV,Nat.reduceAdd,Nat.reduceEqDiff,reduceCtorEq,TF84];refine hK _ _ ?_;clear hK K)
 exact AWp.ret ⟨_,by rw [Tryz.results165];rfl,rfl⟩
theorem ok_cloneParam (x:Param)(h:x.Sm):CallOK Tryz.prog 167 [paV x] (paV x):=by
 (refine CallOK.of_body Tryz.func167 rfl (by decide) (by rw [Tryz.ntmps167];simp) ?_;rw [Tryz.ntmps167])
 (refine AWp.seqR [0,1,2] [] (by decide +kernel) fun K hK=>?_;simp -implicitDefEqProofs only [EV,Nat.reduceEqDiff,Nat.reduceBEq,Nat.reduceLeDiff,reduceCtorEq,TF91];refine hK _ _ ?_;clear hK K)
 (refine AWp.seqR [0,1,2] [] (by decide +kernel) fun K hK=>?_;simp -implicitDefEqProofs only [EV,Nat.reduceAdd,Nat.reduceEqDiff,Nat.reduceLeDiff,reduceCtorEq,TF25,TF91])
 refine⟨tyV x.type,.inl ⟨_,rfl,ok_Clone x.type h.type,rfl⟩,?_⟩
 simp -implicitDefEqProofs only [EV,Nat.reduceAdd,Nat.reduceEqDiff,Nat.reduceLeDiff,reduceCtorEq,]
 (refine hK _ _ ?_;clear hK K)
 (refine AWp.seqR [0,1,2] [] (by decide +kernel) fun K hK=>?_;simp -implicitDefEqProofs only [EV,Nat.reduceAdd,Nat.reduceEqDiff,reduceCtorEq,TF91];refine hK _ _ ?_;clear hK K)
 exact AWp.ret ⟨_,by rw [Tryz.results167];rfl,rfl⟩
theorem ok_copiesF (f:FuncId)(l:List Formal)(hl:l.length≤sm)(hs:∀ t,t∈l→CallOK Tryz.prog f [foV t] (foV t)) :
  CallOK Tryz.prog 164 [.d (.slice (foR l)),.clo f []] (.d (.slice (foR l))):=by
 (refine CallOK.of_body Tryz.func164 rfl (by decide) (by rw [Tryz.ntmps164];simp) ?_;rw [Tryz.ntmps164])
 (refine AWp.seqR [0,1,4,5,7,8,9,10,11] [] (by decide +kernel) fun K hK=>?_;simp -implicitDefEqProofs only [EV,Nat.reduceAdd,Nat.reduceEqDiff,reduceCtorEq,];refine hK _ _ ?_;clear hK K)
 (refine AWp.seqR [0,1,4,5,7,8,9,10,11] [] (by decide +kernel) fun K hK=>?_;simp -implicitDefEqProofs only [EV,Nat.reduceEqDiff,reduceCtorEq,];refine hK _ _ ?_;clear hK K)
 refine AWp.promote 5 5 5 rfl ?_
 refine AWp.seqK fun K1 hK1=>?_
 have fin:∀ sl bx,sle sl [(5,.acc 5)]→ble bx [(5,.rows 5 (foR l))]→K1 sl bx:=by
  intro sl bx h1 h2
  refine hK1 _ _ (AWp.weaken h1 h2 ?_)
  clear hK1 K1
  (refine AWp.seqR [0,1,4,5,7,8,9,10,11] [] (by decide +kernel) fun K hK=>?_;simp -implicitDefEqProofs only [EV,Nat.reduceEqDiff,reduceCtorEq,];refine hK _ _ ?_;clear hK K)
  exact AWp.ret ⟨_,by rw [Tryz.results164];rfl,rfl⟩
 (refine AWp.seqR [0,1,4,5,7,8,9,10,11] [] (by decide +kernel) fun K hK=>?_;simp -implicitDefEqProofs only [EV,Nat.reduceEqDiff,reduceCtorEq,TF46];refine hK _ _ ?_;clear hK K)
 refine AWp.block (AWp.loop (X:=Nat) (fun x=>[(10,intV x),(9,intV l.length),(8,.d (.slice (foR l))),(1,.clo f []),(5,.acc 5)]) (fun x=>[(5,.rows 5 (foR (l.take x)))])
  (fun x=>x≤l.length) (fun x=>l.length - x) 0 ?_ ?_ ?_ ?_)
 ·simp
 ·exact (by simp [sle,vle,sget])
 ·simp [ble,bget,foR]
 rintro j hj
 by_cases hlt:(j:Int) < (l.length:Int)
 ·have hlt':j < l.length:=by omega
  have hy:l[j]? = some l[j]:=List.getElem?_eq_getElem hlt'
  have hmem:l[j]∈l:=List.getElem_mem hlt'
  have htake:l.take (j+1)=l.take j++[l[j]]:=List.take_succ_eq_append_getElem hlt'
  generalize l[j]=y at *
  (refine AWp.seqR [0,1,4,5,7,8,9,10,11] [] (by decide +kernel) fun K hK=>?_;simp -implicitDefEqProofs only [EV,Nat.reduceEqDiff,reduceCtorEq,hlt];refine hK _ _ ?_;clear hK K)
  refine AWp.seqK fun K2 hK2=>?_
  refine AWp.condT rfl (AWp.skip (hK2 _ _ ?_))
  clear hK2 K2
  refine AWp.seqK fun K2 hK2=>?_
  refine AWp.block ?_
  (refine AWp.seqR [0,1,4,5,7,8,9,10,11] [] (by decide +kernel) fun K hK=>?_;simp -implicitDefEqProofs only [EV,Nat.reduceEqDiff,reduceCtorEq,TF46,TF84])
  refine⟨by omega,foC y,foR_get hy,rfl,?_⟩
  simp -implicitDefEqProofs only [EV,Nat.reduceAdd,Nat.reduceEqDiff,Nat.reduceBEq,Nat.reduceLeDiff,reduceCtorEq,TF84]
  (refine hK _ _ ?_;clear hK K)
  (refine AWp.lastR [0,1,4,5,7,8,9,10,11] [] (by decide +kernel) fun K hK=>?_;simp -implicitDefEqProofs only [EV,Nat.reduceAdd,Nat.reduceEqDiff,Nat.reduceBEq,Nat.reduceLeDiff,reduceCtorEq,TF46,TF84])
  refine⟨foV y,.inl ⟨_,rfl,hs y hmem,rfl⟩,?_⟩
  simp -implicitDefEqProofs only [EV,Nat.reduceAdd,Nat.reduceLeDiff,Nat.reduceMul,]
  refine⟨by simp,by rw [List.length_take];unfold lim sm at *;omega,?_⟩
  (refine hK _ _ ?_;clear hK K;try simp only [thenA,blockA])
  refine hK2 _ _ ?_
  clear hK2 K2
  (refine AWp.lastR [0,1,4,5,7,8,9,10,11] [] (by decide +kernel) fun K hK=>?_;simp -implicitDefEqProofs only [EV,Nat.reduceEqDiff,reduceCtorEq,])
  refine⟨by unfold InR;unfold sm at *;omega,?_⟩
  (refine hK _ _ ?_;clear hK K;try simp only [thenA,])
  refine⟨j+1,by omega,by omega,by simp [sle,vle,sget],?_⟩
  rw [htake]
  simp [ble,bget,foR,foC]
 ·(refine AWp.seqR [0,1,4,5,7,8,9,10,11] [] (by decide +kernel) fun K hK=>?_;simp -implicitDefEqProofs only [EV,Nat.reduceEqDiff,reduceCtorEq,hlt];refine hK _ _ ?_;clear hK K)
  refine AWp.seqK fun K2 hK2=>?_
  refine AWp.condF rfl (AWp.exit ?_)
  simp only [thenA,blockA,if_true]
  rw [List.take_of_length_le (by omega)]
  exact fin _ _ (by simp [sle,vle,sget]) (by simp [ble,bget,])
theorem ok_copiesP (f:FuncId)(l:List Param)(hl:l.length≤sm)(hs:∀ t,t∈l→CallOK Tryz.prog f [paV t] (paV t)) :
  CallOK Tryz.prog 166 [.d (.slice (paR l)),.clo f []] (.d (.slice (paR l))):=by
 (refine CallOK.of_body Tryz.func166 rfl (by decide) (by rw [Tryz.ntmps166];simp) ?_;rw [Tryz.ntmps166])
 (refine AWp.seqR [0,1,4,5,7,8,9,10,11] [] (by decide +kernel) fun K hK=>?_;simp -implicitDefEqProofs only [EV,Nat.reduceAdd,Nat.reduceEqDiff,reduceCtorEq,];refine hK _ _ ?_;clear hK K)
 (refine AWp.seqR [0,1,4,5,7,8,9,10,11] [] (by decide +kernel) fun K hK=>?_;simp -implicitDefEqProofs only [EV,Nat.reduceEqDiff,reduceCtorEq,];refine hK _ _ ?_;clear hK K)
 refine AWp.promote 5 5 5 rfl ?_
 refine AWp.seqK fun K1 hK1=>?_
 have fin:∀ sl bx,sle sl [(5,.acc 5)]→ble bx [(5,.rows 5 (paR l))]→K1 sl bx:=by
  intro sl bx h1 h2
  refine hK1 _ _ (AWp.weaken h1 h2 ?_)
  clear hK1 K1
  (refine AWp.seqR [0,1,4,5,7,8,9,10,11] [] (by decide +kernel) fun K hK=>?_;simp -implicitDefEqProofs only [EV,Nat.reduceEqDiff,reduceCtorEq,];refine hK _ _ ?_;clear hK K)
  exact AWp.ret ⟨_,by rw [Tryz.results166];rfl,rfl⟩
 (refine AWp.seqR [0,1,4,5,7,8,9,10,11] [] (by decide +kernel) fun K hK=>?_;simp -implicitDefEqProofs only [EV,Nat.reduceEqDiff,reduceCtorEq,TF47];refine hK _ _ ?_;clear hK K)
 refine AWp.block (AWp.loop (X:=Nat) (fun x=>[(10,intV x),(9,intV l.length),(8,.d (.slice (paR l))),(1,.clo f []),(5,.acc 5)]) (fun x=>[(5,.rows 5 (paR (l.take x)))])
  (fun x=>x≤l.length) (fun x=>l.length - x) 0 ?_ ?_ ?_ ?_)
 ·simp
 ·exact (by simp [sle,vle,sget])
 ·simp [ble,bget,paR]
 rintro j hj
 by_cases hlt:(j:Int) < (l.length:Int)
 ·have hlt':j < l.length:=by omega
  have hy:l[j]? = some l[j]:=List.getElem?_eq_getElem hlt'
  have hmem:l[j]∈l:=List.getElem_mem hlt'
  have htake:l.take (j+1)=l.take j++[l[j]]:=List.take_succ_eq_append_getElem hlt'
  generalize l[j]=y at *
  (refine AWp.seqR [0,1,4,5,7,8,9,10,11] [] (by decide +kernel) fun K hK=>?_;simp -implicitDefEqProofs only [EV,Nat.reduceEqDiff,reduceCtorEq,hlt];refine hK _ _ ?_;clear hK K)
  refine AWp.seqK fun K2 hK2=>?_
  refine AWp.condT rfl (AWp.skip (hK2 _ _ ?_))
  clear hK2 K2
  refine AWp.seqK fun K2 hK2=>?_
  refine AWp.block ?_
  (refine AWp.seqR [0,1,4,5,7,8,9,10,11] [] (by decide +kernel) fun K hK=>?_;simp -implicitDefEqProofs only [EV,Nat.reduceEqDiff,reduceCtorEq,TF47,TF91])
  refine⟨by omega,paC y,paR_get hy,rfl,?_⟩
  simp -implicitDefEqProofs only [EV,Nat.reduceAdd,Nat.reduceEqDiff,Nat.reduceBEq,Nat.reduceLeDiff,reduceCtorEq,TF91]
  (refine hK _ _ ?_;clear hK K)
  (refine AWp.lastR [0,1,4,5,7,8,9,10,11] [] (by decide +kernel) fun K hK=>?_;simp -implicitDefEqProofs only [EV,Nat.reduceAdd,Nat.reduceEqDiff,Nat.reduceBEq,Nat.reduceLeDiff,reduceCtorEq,TF47,TF91])
  refine⟨paV y,.inl ⟨_,rfl,hs y hmem,rfl⟩,?_⟩
  simp -implicitDefEqProofs only [EV,Nat.reduceAdd,Nat.reduceLeDiff,Nat.reduceMul,]
  refine⟨by simp,by rw [List.length_take];unfold lim sm at *;omega,?_⟩
  (refine hK _ _ ?_;clear hK K;try simp only [thenA,blockA])
  refine hK2 _ _ ?_
  clear hK2 K2
  (refine AWp.lastR [0,1,4,5,7,8,9,10,11] [] (by decide +kernel) fun K hK=>?_;simp -implicitDefEqProofs only [EV,Nat.reduceEqDiff,reduceCtorEq,])
  refine⟨by unfold InR;unfold sm at *;omega,?_⟩
  (refine hK _ _ ?_;clear hK K;try simp only [thenA,])
  refine⟨j+1,by omega,by omega,by simp [sle,vle,sget],?_⟩
  rw [htake]
  simp [ble,bget,paR,paC]
 ·(refine AWp.seqR [0,1,4,5,7,8,9,10,11] [] (by decide +kernel) fun K hK=>?_;simp -implicitDefEqProofs only [EV,Nat.reduceEqDiff,reduceCtorEq,hlt];refine hK _ _ ?_;clear hK K)
  refine AWp.seqK fun K2 hK2=>?_
  refine AWp.condF rfl (AWp.exit ?_)
  simp only [thenA,blockA,if_true]
  rw [List.take_of_length_le (by omega)]
  exact fin _ _ (by simp [sle,vle,sget]) (by simp [ble,bget,])
theorem ok_copiesS (f:FuncId)(l:List Sig)(hl:l.length≤sm)(hs:∀ t,t∈l→CallOK Tryz.prog f [siV t] (siV t)) :
  CallOK Tryz.prog 168 [.d (.slice (siR l)),.clo f []] (.d (.slice (siR l))):=by
 (refine CallOK.of_body Tryz.func168 rfl (by decide) (by rw [Tryz.ntmps168];simp) ?_;rw [Tryz.ntmps168])
 (refine AWp.seqR [0,1,4,5,7,8,9,10,11] [] (by decide +kernel) fun K hK=>?_;simp -implicitDefEqProofs only [EV,Nat.reduceAdd,Nat.reduceEqDiff,reduceCtorEq,];refine hK _ _ ?_;clear hK K)
 (refine AWp.seqR [0,1,4,5,7,8,9,10,11] [] (by decide +kernel) fun K hK=>?_;simp -implicitDefEqProofs only [EV,Nat.reduceEqDiff,reduceCtorEq,];refine hK _ _ ?_;clear hK K)
 refine AWp.promote 5 7 5 rfl ?_
 refine AWp.seqK fun K1 hK1=>?_
 have fin:∀ sl bx,sle sl [(5,.acc 5)]→ble bx [(5,.rows 7 (siR l))]→K1 sl bx:=by
  intro sl bx h1 h2
  refine hK1 _ _ (AWp.weaken h1 h2 ?_)
  clear hK1 K1
  (refine AWp.seqR [0,1,4,5,7,8,9,10,11] [] (by decide +kernel) fun K hK=>?_;simp -implicitDefEqProofs only [EV,Nat.reduceEqDiff,reduceCtorEq,];refine hK _ _ ?_;clear hK K)
  exact AWp.ret ⟨_,by rw [Tryz.results168];rfl,rfl⟩
 (refine AWp.seqR [0,1,4,5,7,8,9,10,11] [] (by decide +kernel) fun K hK=>?_;simp -implicitDefEqProofs only [EV,Nat.reduceEqDiff,reduceCtorEq,TF75];refine hK _ _ ?_;clear hK K)
 refine AWp.block (AWp.loop (X:=Nat) (fun x=>[(10,intV x),(9,intV l.length),(8,.d (.slice (siR l))),(1,.clo f []),(5,.acc 5)]) (fun x=>[(5,.rows 7 (siR (l.take x)))])
  (fun x=>x≤l.length) (fun x=>l.length - x) 0 ?_ ?_ ?_ ?_)
 ·simp
 ·exact (by simp [sle,vle,sget])
 ·simp [ble,bget,siR]
 rintro j hj
 by_cases hlt:(j:Int) < (l.length:Int)
 ·have hlt':j < l.length:=by omega
  have hy:l[j]? = some l[j]:=List.getElem?_eq_getElem hlt'
  have hmem:l[j]∈l:=List.getElem_mem hlt'
  have htake:l.take (j+1)=l.take j++[l[j]]:=List.take_succ_eq_append_getElem hlt'
  generalize l[j]=y at *
  (refine AWp.seqR [0,1,4,5,7,8,9,10,11] [] (by decide +kernel) fun K hK=>?_;simp -implicitDefEqProofs only [EV,Nat.reduceEqDiff,reduceCtorEq,hlt];refine hK _ _ ?_;clear hK K)
  refine AWp.seqK fun K2 hK2=>?_
  refine AWp.condT rfl (AWp.skip (hK2 _ _ ?_))
  clear hK2 K2
  refine AWp.seqK fun K2 hK2=>?_
  refine AWp.block ?_
  (refine AWp.seqR [0,1,4,5,7,8,9,10,11] [] (by decide +kernel) fun K hK=>?_;simp -implicitDefEqProofs only [EV,Nat.reduceEqDiff,reduceCtorEq,TF75,TF78])
  refine⟨by omega,siC y,siR_get hy,rfl,?_⟩
  simp -implicitDefEqProofs only [EV,Nat.reduceAdd,Nat.reduceEqDiff,Nat.reduceBEq,Nat.reduceLeDiff,reduceCtorEq,TF78]
  (refine hK _ _ ?_;clear hK K)
  (refine AWp.lastR [0,1,4,5,7,8,9,10,11] [] (by decide +kernel) fun K hK=>?_;simp -implicitDefEqProofs only [EV,Nat.reduceAdd,Nat.reduceEqDiff,Nat.reduceBEq,Nat.reduceLeDiff,reduceCtorEq,TF75,TF78])
  refine⟨siV y,.inl ⟨_,rfl,hs y hmem,rfl⟩,?_⟩
  simp -implicitDefEqProofs only [EV,Nat.reduceAdd,Nat.reduceLeDiff,Nat.reduceMul,]
  refine⟨by simp,by rw [List.length_take];unfold lim sm at *;omega,?_⟩
  (refine hK _ _ ?_;clear hK K;try simp only [thenA,blockA])
  refine hK2 _ _ ?_
  clear hK2 K2
  (refine AWp.lastR [0,1,4,5,7,8,9,10,11] [] (by decide +kernel) fun K hK=>?_;simp -implicitDefEqProofs only [EV,Nat.reduceEqDiff,reduceCtorEq,])
  refine⟨by unfold InR;unfold sm at *;omega,?_⟩
  (refine hK _ _ ?_;clear hK K;try simp only [thenA,])
  refine⟨j+1,by omega,by omega,by simp [sle,vle,sget],?_⟩
  rw [htake]
  simp [ble,bget,siR,siC]
 ·(refine AWp.seqR [0,1,4,5,7,8,9,10,11] [] (by decide +kernel) fun K hK=>?_;simp -implicitDefEqProofs only [EV,Nat.reduceEqDiff,reduceCtorEq,hlt];refine hK _ _ ?_;clear hK K)
  refine AWp.seqK fun K2 hK2=>?_
  refine AWp.condF rfl (AWp.exit ?_)
  simp only [thenA,blockA,if_true]
  rw [List.take_of_length_le (by omega)]
  exact fin _ _ (by simp [sle,vle,sget]) (by simp [ble,bget,])
theorem ok_copiesD (f:FuncId)(l:List Decl)(hl:l.length≤sm)(hs:∀ t,t∈l→CallOK Tryz.prog f [deV t] (deV t)) :
  CallOK Tryz.prog 118 [.d (.slice (deR l)),.clo f []] (.d (.slice (deR l))):=by
 (refine CallOK.of_body Tryz.func118 rfl (by decide) (by rw [Tryz.ntmps118];simp) ?_;rw [Tryz.ntmps118])
 (refine AWp.seqR [0,1,4,5,7,8,9,10,11] [] (by decide +kernel) fun K hK=>?_;simp -implicitDefEqProofs only [EV,Nat.reduceAdd,Nat.reduceEqDiff,reduceCtorEq,];refine hK _ _ ?_;clear hK K)
 (refine AWp.seqR [0,1,4,5,7,8,9,10,11] [] (by decide +kernel) fun K hK=>?_;simp -implicitDefEqProofs only [EV,Nat.reduceEqDiff,reduceCtorEq,];refine hK _ _ ?_;clear hK K)
 refine AWp.promote 5 23 5 rfl ?_
 refine AWp.seqK fun K1 hK1=>?_
 have fin:∀ sl bx,sle sl [(5,.acc 5)]→ble bx [(5,.rows 23 (deR l))]→K1 sl bx:=by
  intro sl bx h1 h2
  refine hK1 _ _ (AWp.weaken h1 h2 ?_)
  clear hK1 K1
  (refine AWp.seqR [0,1,4,5,7,8,9,10,11] [] (by decide +kernel) fun K hK=>?_;simp -implicitDefEqProofs only [EV,Nat.reduceEqDiff,reduceCtorEq,];refine hK _ _ ?_;clear hK K)
  exact AWp.ret ⟨_,by rw [Tryz.results118];rfl,rfl⟩
 (refine AWp.seqR [0,1,4,5,7,8,9,10,11] [] (by decide +kernel) fun K hK=>?_;simp -implicitDefEqProofs only [EV,Nat.reduceEqDiff,reduceCtorEq,TF22];refine hK _ _ ?_;clear hK K)
 refine AWp.block (AWp.loop (X:=Nat) (fun x=>[(10,intV x),(9,intV l.length),(8,.d (.slice (deR l))),(1,.clo f []),(5,.acc 5)]) (fun x=>[(5,.rows 23 (deR (l.take x)))])
  (fun x=>x≤l.length) (fun x=>l.length - x) 0 ?_ ?_ ?_ ?_)
 ·simp
 ·exact (by simp [sle,vle,sget])
 ·simp [ble,bget,deR]
 rintro j hj
 by_cases hlt:(j:Int) < (l.length:Int)
 ·have hlt':j < l.length:=by omega
  have hy:l[j]? = some l[j]:=List.getElem?_eq_getElem hlt'
  have hmem:l[j]∈l:=List.getElem_mem hlt'
  have htake:l.take (j+1)=l.take j++[l[j]]:=List.take_succ_eq_append_getElem hlt'
  generalize l[j]=y at *
  (refine AWp.seqR [0,1,4,5,7,8,9,10,11] [] (by decide +kernel) fun K hK=>?_;simp -implicitDefEqProofs only [EV,Nat.reduceEqDiff,reduceCtorEq,hlt];refine hK _ _ ?_;clear hK K)
  refine AWp.seqK fun K2 hK2=>?_
  refine AWp.condT rfl (AWp.skip (hK2 _ _ ?_))
  clear hK2 K2
  refine AWp.seqK fun K2 hK2=>?_
  refine AWp.block ?_
  (refine AWp.seqR [0,1,4,5,7,8,9,10,11] [] (by decide +kernel) fun K hK=>?_;simp -implicitDefEqProofs only [EV,Nat.reduceEqDiff,reduceCtorEq,TF22,TF80])
  refine⟨by omega,deC y,deR_get hy,rfl,?_⟩
  simp -implicitDefEqProofs only [EV,Nat.reduceAdd,Nat.reduceEqDiff,Nat.reduceBEq,Nat.reduceLeDiff,reduceCtorEq,TF80]
  (refine hK _ _ ?_;clear hK K)
  (refine AWp.lastR [0,1,4,5,7,8,9,10,11] [] (by decide +kernel) fun K hK=>?_;simp -implicitDefEqProofs only [EV,Nat.reduceAdd,Nat.reduceEqDiff,Nat.reduceBEq,Nat.reduceLeDiff,reduceCtorEq,TF22,TF80])
  refine⟨deV y,.inl ⟨_,rfl,hs y hmem,rfl⟩,?_⟩
  simp -implicitDefEqProofs only [EV,Nat.reduceAdd,Nat.reduceLeDiff,Nat.reduceMul,]
  refine⟨by simp,by rw [List.length_take];unfold lim sm at *;omega,?_⟩
  (refine hK _ _ ?_;clear hK K;try simp only [thenA,blockA])
  refine hK2 _ _ ?_
  clear hK2 K2
  (refine AWp.lastR [0,1,4,5,7,8,9,10,11] [] (by decide +kernel) fun K hK=>?_;simp -implicitDefEqProofs only [EV,Nat.reduceEqDiff,reduceCtorEq,])
  refine⟨by unfold InR;unfold sm at *;omega,?_⟩
  (refine hK _ _ ?_;clear hK K;try simp only [thenA,])
  refine⟨j+1,by omega,by omega,by simp [sle,vle,sget],?_⟩
  rw [htake]
  simp [ble,bget,deR,deC]
 ·(refine AWp.seqR [0,1,4,5,7,8,9,10,11] [] (by decide +kernel) fun K hK=>?_;simp -implicitDefEqProofs only [EV,Nat.reduceEqDiff,reduceCtorEq,hlt];refine hK _ _ ?_;clear hK K)
  refine AWp.seqK fun K2 hK2=>?_
  refine AWp.condF rfl (AWp.exit ?_)
  simp only [thenA,blockA,if_true]
  rw [List.take_of_length_le (by omega)]
  exact fin _ _ (by simp [sle,vle,sget]) (by simp [ble,bget,])
theorem AWp.splitNil {ro:Option Nat} {P:Program} {n:Nat} {c:Code} {Q:Exit→SL→Boxes→Prop} {sl:SL} {bx:Boxes} (t:Nat)(hd:sget sl t=.d (.slice []))(h1:AWp ro P n c Q ((t,.d .nil)::sl) bx)(h2:AWp ro P n c Q ((t,.d .emp)::sl) bx):AWp ro P n c Q sl bx:=by
 intro C S w β a hs
 have hr:=hs.slot t
 rw [hd] at hr
 have hc:=hr.inv_d
 generalize hv:a.tmps.getD t undef=v at hc
 have go:∀ x:SV,RepV S w β x v→St C n S w β a ((t,x)::sl) bx:=fun x hx=>⟨hs.inv,hs.size,hs.defers,fun u=>by
  simp only [sget]
  split
  ·rename_i he;subst he;rw [hv];exact hx
  ·exact hs.slot u⟩
 cases hc with
 | slice0 a cap hac =>
  cases a with
  | none=>have:=hac rfl;subst this;exact h1 C S w β _ (go _ (.d _ _ .nil))
  | some b=>exact h2 C S w β _ (go _ (.d _ _ (.emp b cap)))
 | slice _ b off cap sz=>exact h2 C S w β _ (go _ (.d _ _ (.emp _ cap)))
theorem ok_SClone (l:List Str)(hl:l.length≤sm):CallOK Tryz.prog 145 [strsV l] (strsV l):=by
 (refine CallOK.of_body Tryz.func145 rfl (by decide) (by rw [Tryz.ntmps145];simp) ?_;rw [Tryz.ntmps145])
 (refine AWp.seqR [0,2,4] [] (by decide +kernel) fun K hK=>?_;simp -implicitDefEqProofs only [EV,Nat.reduceEqDiff,reduceCtorEq,];refine hK _ _ ?_;clear hK K)
 cases l with
 | nil =>
  refine AWp.splitNil 0 rfl ?_ ?_
  ·refine AWp.seqK fun K1 hK1=>?_
   (refine AWp.seqR [0,2,4] [] (by decide +kernel) fun K hK=>?_;simp -implicitDefEqProofs only [EV,Nat.reduceEqDiff,reduceCtorEq,TF76];refine hK _ _ ?_;clear hK K)
   refine AWp.condT rfl ?_
   (refine AWp.seqR [0,2,4] [] (by decide +kernel) fun K hK=>?_;simp -implicitDefEqProofs only [EV,Nat.reduceEqDiff,reduceCtorEq,];refine hK _ _ ?_;clear hK K)
   exact AWp.ret ⟨_,by rw [Tryz.results145];rfl,rfl⟩
  ·refine AWp.seqK fun K1 hK1=>?_
   (refine AWp.seqR [0,2,4] [] (by decide +kernel) fun K hK=>?_;simp -implicitDefEqProofs only [EV,Nat.reduceEqDiff,reduceCtorEq,TF76];refine hK _ _ ?_;clear hK K)
   refine AWp.condF rfl (AWp.skip (hK1 _ _ ?_))
   clear hK1 K1
   (refine AWp.seqR [0,2,4,5] [5] (by decide +kernel) fun K hK=>?_;simp -implicitDefEqProofs only [EV,Nat.reduceEqDiff,Nat.reduceBEq,Nat.reduceLeDiff,Nat.reduceMul,reduceCtorEq,TF9,TF76];refine hK _ _ ?_;clear hK K)
   exact AWp.ret ⟨_,by rw [Tryz.results145];rfl,rfl⟩
 | cons x l =>
  have e:strR (x::l)=[.str x]::strR l:=rfl
  refine AWp.seqK fun K1 hK1=>?_
  (refine AWp.seqR [0,2,4] [] (by decide +kernel) fun K hK=>?_;simp -implicitDefEqProofs only [EV,Nat.reduceEqDiff,reduceCtorEq,TF76,e,sliceNil];refine hK _ _ ?_;clear hK K)
  refine AWp.condF rfl (AWp.skip (hK1 _ _ ?_))
  clear hK1 K1
  have hrow:=strR_row (x::l)
  rw [e] at hrow
  simp only [List.length_cons] at hl
  (refine AWp.seqR [0,2,4,5] [5] (by decide +kernel) fun K hK=>?_;simp -implicitDefEqProofs only [EV,Nat.reduceEqDiff,Nat.reduceBEq,Nat.reduceLeDiff,Nat.reduceMul,reduceCtorEq,TF9,TF76])
  refine⟨hrow,by unfold lim sm at *;omega,?_⟩
  (refine hK _ _ ?_;clear hK K)
  rw [← e]
  exact AWp.ret ⟨_,by rw [Tryz.results145];rfl,rfl⟩
theorem ok_cloneSig (x:Sig)(h:x.Sm):CallOK Tryz.prog 169 [siV x] (siV x):=by
 (refine CallOK.of_body Tryz.func169 rfl (by decide) (by rw [Tryz.ntmps169];simp) ?_;rw [Tryz.ntmps169])
 (refine AWp.seqR [0,1,2] [] (by decide +kernel) fun K hK=>?_;simp -implicitDefEqProofs only [EV,Nat.reduceEqDiff,Nat.reduceBEq,Nat.reduceLeDiff,reduceCtorEq,TF78,];refine hK _ _ ?_;clear hK K)
 (refine AWp.seqD [0,1,2] [] 10 mixed (by decide +kernel) (by decide +kernel) fun K hK=>?_;simp -implicitDefEqProofs only [EV,Nat.reduceAdd,Nat.reduceEqDiff,Nat.reduceLeDiff,reduceCtorEq,TF25,TF46,TF47,TF78,])
 refine⟨.d (.slice (foR x.formals)),.inl ⟨_,rfl,ok_copiesF _ _ h.formals.1 fun t ht=>ok_cloneFormal t (h.formals.2 t ht),rfl⟩,?_⟩
 simp -implicitDefEqProofs only [EV,Nat.reduceAdd,Nat.reduceEqDiff,Nat.reduceLeDiff,reduceCtorEq,TF47,TF78,]
 refine⟨.d (.slice (paR x.params)),.inl ⟨_,rfl,ok_copiesP _ _ h.params.1 fun t ht=>ok_cloneParam t (h.params.2 t ht),rfl⟩,?_⟩
 simp -implicitDefEqProofs only [EV,Nat.reduceAdd,Nat.reduceEqDiff,Nat.reduceLeDiff,reduceCtorEq,TF25,TF78,]
 refine⟨tyV x.result,.inl ⟨_,rfl,ok_Clone x.result h.result,rfl⟩,?_⟩
 simp -implicitDefEqProofs only [EV,Nat.reduceAdd,Nat.reduceEqDiff,Nat.reduceLeDiff,reduceCtorEq,]
 (refine hK _ _ ?_;clear hK K)
 (refine AWp.seqR [0,1,2] [] (by decide +kernel) fun K hK=>?_;simp -implicitDefEqProofs only [EV,Nat.reduceAdd,Nat.reduceEqDiff,reduceCtorEq,TF78,];refine hK _ _ ?_;clear hK K)
 exact AWp.ret ⟨_,by rw [Tryz.results169];rfl,rfl⟩
theorem ok_cloneDecl (x:Decl)(h:x.Sm):CallOK Tryz.prog 119 [deV x] (deV x):=by
 (refine CallOK.of_body Tryz.func119 rfl (by decide) (by rw [Tryz.ntmps119];simp) ?_;rw [Tryz.ntmps119])
 (refine AWp.seqR [0,1,2] [] (by decide +kernel) fun K hK=>?_;simp -implicitDefEqProofs only [EV,Nat.reduceEqDiff,Nat.reduceBEq,Nat.reduceLeDiff,reduceCtorEq,TF80,];refine hK _ _ ?_;clear hK K)
 (refine AWp.seqD [0,1,2] [] 10 mixed (by decide +kernel) (by decide +kernel) fun K hK=>?_;simp -implicitDefEqProofs only [EV,Nat.reduceEqDiff,reduceCtorEq,TF46,TF47,TF75,TF80,])
 refine⟨.d (.slice (foR x.formals)),.inl ⟨_,rfl,ok_copiesF _ _ h.formals.1 fun t ht=>ok_cloneFormal t (h.formals.2 t ht),rfl⟩,?_⟩
 simp -implicitDefEqProofs only [EV,Nat.reduceAdd,Nat.reduceEqDiff,Nat.reduceLeDiff,reduceCtorEq,TF47,TF80,]
 refine⟨.d (.slice (paR x.fields)),.inl ⟨_,rfl,ok_copiesP _ _ h.fields.1 fun t ht=>ok_cloneParam t (h.fields.2 t ht),rfl⟩,?_⟩
 simp -implicitDefEqProofs only [EV,Nat.reduceAdd,Nat.reduceEqDiff,Nat.reduceLeDiff,reduceCtorEq,TF75,TF80,]
 refine⟨.d (.slice (siR x.sigs)),.inl ⟨_,rfl,ok_copiesS _ _ h.sigs.1 fun t ht=>ok_cloneSig t (h.sigs.2 t ht),rfl⟩,?_⟩
 simp -implicitDefEqProofs only [EV,Nat.reduceAdd,Nat.reduceEqDiff,Nat.reduceLeDiff,reduceCtorEq,]
 (refine hK _ _ ?_;clear hK K)
 (refine AWp.seqD [0,1,2] [] 10 mixed (by decide +kernel) (by decide +kernel) fun K hK=>?_;simp -implicitDefEqProofs only [EV,Nat.reduceAdd,Nat.reduceEqDiff,Nat.reduceLeDiff,reduceCtorEq,TF28,TF76,TF78,TF80,])
 refine⟨strsV x.vars,.inl ⟨_,rfl,ok_SClone _ h.vars.1,rfl⟩,?_⟩
 simp -implicitDefEqProofs only [EV,Nat.reduceAdd,Nat.reduceEqDiff,Nat.reduceLeDiff,reduceCtorEq,TF78,TF80,]
 refine⟨siV x.sig,.inl ⟨_,rfl,ok_cloneSig _ h.sig,rfl⟩,?_⟩
 simp -implicitDefEqProofs only [EV,Nat.reduceAdd,Nat.reduceEqDiff,Nat.reduceLeDiff,reduceCtorEq,TF28,TF80,]
 refine⟨exV x.body,.inl ⟨_,rfl,ok_EClone _ h.body,rfl⟩,?_⟩
 simp -implicitDefEqProofs only [EV,Nat.reduceAdd,Nat.reduceEqDiff,Nat.reduceLeDiff,reduceCtorEq,]
 (refine hK _ _ ?_;clear hK K)
 (refine AWp.seqR [0,1,2] [] (by decide +kernel) fun K hK=>?_;simp -implicitDefEqProofs only [EV,Nat.reduceAdd,Nat.reduceEqDiff,reduceCtorEq,TF80,];refine hK _ _ ?_;clear hK K)
 exact AWp.ret ⟨_,by rw [Tryz.results119];rfl,rfl⟩
theorem ok_PClone (p:Prog)(h:p.Sm):CallOK Tryz.prog 71 [prV p] (prV p):=by
 (refine CallOK.of_body Tryz.func71 rfl (by decide) (by rw [Tryz.ntmps71];simp) ?_;rw [Tryz.ntmps71])
 (refine AWp.seqR [0,1,2] [] (by decide +kernel) fun K hK=>?_;simp -implicitDefEqProofs only [EV,Nat.reduceEqDiff,Nat.reduceBEq,Nat.reduceLeDiff,reduceCtorEq,TF30];refine hK _ _ ?_;clear hK K)
 (refine AWp.seqD [0,1,2] [] 7 mixed (by decide +kernel) (by decide +kernel) fun K hK=>?_;simp -implicitDefEqProofs only [EV,Nat.reduceAdd,Nat.reduceEqDiff,reduceCtorEq,TF22,TF28,TF30])
 refine⟨.d (.slice (deR p.decls)),.inl ⟨_,rfl,ok_copiesD _ _ h.decls.1 fun t ht=>ok_cloneDecl t (h.decls.2 t ht),rfl⟩,?_⟩
 simp -implicitDefEqProofs only [EV,]
 refine⟨exV p.main,.inl ⟨_,rfl,ok_EClone _ h.main,rfl⟩,?_⟩
 simp -implicitDefEqProofs only [EV,Nat.reduceAdd,Nat.reduceEqDiff,Nat.reduceLeDiff,reduceCtorEq,TF30]
 (refine hK _ _ ?_;clear hK K)
 exact AWp.ret ⟨_,by rw [Tryz.results71];rfl,rfl⟩
end Go.Abs
/- several texts in one -/
namespace Go.Abs
set_option linter.unusedSimpArgs false
set_option linter.unusedVariables false
open Go Go.Proofs
mutual
theorem Ty.count_ge:∀ (t:Ty)(k:Int),k+1≤t.count k
 | .mk n a _,k=>by
  simp only [Ty.count]
  have:=Ty.countL_ge a (k+1+((n.length / 50:Nat):Int))
  omega
theorem Ty.countL_ge:∀ (l:List Ty)(k:Int),k≤Ty.countL l k
 | [],k=>by simp [Ty.countL]
 | t::ts,k=>by
  simp only [Ty.countL]
  split
  ·have h1:=Ty.count_ge t k
   have h2:=Ty.countL_ge ts (t.count k)
   omega
  ·omega
end
mutual
theorem Ty.count_sm:∀ (t:Ty)(k:Int),0≤k→t.count k≤2000→t.Sm
 | .mk n a p,k,h0,h=>by
  simp only [Ty.count] at h
  have h1:=Ty.countL_ge a (k+1+((n.length / 50:Nat):Int))
  have h2:=Ty.countL_sm a (k+1+((n.length / 50:Nat):Int)) (by omega) h
  exact .mk n a p (by unfold sm;omega) (by unfold sm;omega) h2.2
theorem Ty.countL_sm:∀ (l:List Ty)(k:Int),0≤k→Ty.countL l k≤2000→(k+l.length≤2000∧∀ t,t∈l→t.Sm)
 | [],k,h0,h=>by simp [Ty.countL] at h ⊢;omega
 | t::ts,k,h0,h=>by
  simp only [Ty.countL] at h
  split at h
  ·have h1:=Ty.count_ge t k
   have h2:=Ty.countL_sm ts (t.count k) (by omega) h
   have h3:=Ty.count_sm t k h0 (by have:=Ty.countL_ge ts (t.count k);omega)
   refine⟨by simp only [List.length_cons];omega,?_⟩
   intro u hu
   simp only [List.mem_cons] at hu
   rcases hu with rfl | hu
   ·exact h3
   ·exact h2.2 u hu
  ·omega
end
mutual
theorem Ex.count_ge:∀ (t:Ex)(k:Int),k+1≤t.count k
 | .mk _ n t a ks _,k=>by
  simp only [Ex.count]
  have h1:=Ty.count_ge t (k+((n.length / 50:Nat):Int))
  have h2:=Ty.countL_ge a (t.count (k+((n.length / 50:Nat):Int)))
  have h3:=Ex.countL_ge ks (Ty.countL a (t.count (k+((n.length / 50:Nat):Int))))
  omega
theorem Ex.countL_ge:∀ (l:List Ex)(k:Int),k≤Ex.countL l k
 | [],k=>by simp [Ex.countL]
 | t::ts,k=>by
  simp only [Ex.countL]
  split
  ·have h1:=Ex.count_ge t k
   have h2:=Ex.countL_ge ts (t.count k)
   omega
  ·omega
end
mutual
theorem Ex.count_sm:∀ (t:Ex)(k:Int),0≤k→t.count k≤2000→t.Sm
 | .mk kd n t a ks p,k,h0,h=>by
  simp only [Ex.count] at h
  have h1:=Ty.count_ge t (k+((n.length / 50:Nat):Int))
  have h2:=Ty.countL_ge a (t.count (k+((n.length / 50:Nat):Int)))
  have h3:=Ex.countL_ge ks (Ty.countL a (t.count (k+((n.length / 50:Nat):Int))))
  have g1:=Ty.count_sm t (k+((n.length / 50:Nat):Int)) (by omega) (by omega)
  have g2:=Ty.countL_sm a (t.count (k+((n.length / 50:Nat):Int))) (by omega) (by omega)
  have g3:=Ex.countL_sm ks (Ty.countL a (t.count (k+((n.length / 50:Nat):Int)))) (by omega) h
  exact .mk kd n t a ks p (by unfold sm;omega) g1 (by unfold sm;omega) g2.2 (by unfold sm;omega) g3.2
theorem Ex.countL_sm:∀ (l:List Ex)(k:Int),0≤k→Ex.countL l k≤2000→(k+l.length≤2000∧∀ t,t∈l→t.Sm)
 | [],k,h0,h=>by simp [Ex.countL] at h ⊢;omega
 | t::ts,k,h0,h=>by
  simp only [Ex.countL] at h
  split at h
  ·have h1:=Ex.count_ge t k
   have h2:=Ex.countL_sm ts (t.count k) (by omega) h
   have h3:=Ex.count_sm t k h0 (by have:=Ex.countL_ge ts (t.count k);omega)
   refine⟨by simp only [List.length_cons];omega,?_⟩
   intro u hu
   simp only [List.mem_cons] at hu
   rcases hu with rfl | hu
   ·exact h3
   ·exact h2.2 u hu
  ·omega
end
abbrev LSm {α:Type} (F:List α→Int→Int)(Sm:α→Prop):Prop:=∀ (l:List α)(k:Int),(k≤F l k)∧(0≤k→F l k≤2000→k+l.length≤2000∧∀ t,t∈l→Sm t)
theorem list_sm {α:Type} (F:List α→Int→Int)(g:α→Int→Int)(Sm:α→Prop)(h0:∀ k,F [] k=k)(h1:∀ x xs k,F (x::xs) k=if k≤2000 then F xs (g x k) else k)
  (hge:∀ x k,k+1≤g x k) (hsm:∀ x k,0≤k→g x k≤2000→Sm x):∀ (l:List α) (k:Int),(k≤F l k)∧(0≤k→F l k≤2000→k+l.length≤2000∧∀ t,t∈l→Sm t)
 | [],k=>by rw [h0];exact⟨Int.le_refl _,fun h0 h=>⟨by simp;omega,by simp⟩⟩
 | t::ts,k=>by
  rw [h1]
  obtain⟨i1,i2⟩:=list_sm F g Sm h0 h1 hge hsm ts (g t k)
  have h2:=hge t k
  split
  ·refine⟨by omega,fun hk h=>?_⟩
   obtain⟨j1,j2⟩:=i2 (by omega) h
   have h3:=hsm t k hk (by omega)
   refine⟨by simp only [List.length_cons];omega,?_⟩
   intro u hu
   simp only [List.mem_cons] at hu
   rcases hu with rfl | hu
   ·exact h3
   ·exact j2 u hu
  ·exact⟨Int.le_refl _,fun _ h=>by omega⟩
theorem fo_sm:LSm foCount Formal.Sm:=list_sm foCount (fun f n=>f.bound.count (n+1+((f.name.length / 50:Nat):Int))) Formal.Sm (fun _=>rfl) (fun _ _ _=>rfl)
 (fun x k=>by have:=Ty.count_ge x.bound (k+1+((x.name.length / 50:Nat):Int));omega)
 (fun x k h0 h=>by
  have:=Ty.count_ge x.bound (k+1+((x.name.length / 50:Nat):Int))
  exact⟨by unfold sm;omega,Ty.count_sm _ _ (by omega) h⟩)
theorem pa_sm:LSm paCount Param.Sm:=list_sm paCount (fun f n=>f.type.count (n+1+((f.name.length / 50:Nat):Int))) Param.Sm (fun _=>rfl) (fun _ _ _=>rfl)
 (fun x k=>by have:=Ty.count_ge x.type (k+1+((x.name.length / 50:Nat):Int));omega)
 (fun x k h0 h=>by
  have:=Ty.count_ge x.type (k+1+((x.name.length / 50:Nat):Int))
  exact⟨by unfold sm;omega,Ty.count_sm _ _ (by omega) h⟩)
theorem va_sm:LSm vaCount (fun v=>v.length≤sm):=list_sm vaCount (fun v n=>n+1+((v.length / 50:Nat):Int)) (fun v=>v.length≤sm) (fun _=>rfl) (fun _ _ _=>rfl) (fun x k=>by omega) (fun x k h0 h=>by unfold sm;omega)
theorem Sig.count_sm (s:Sig)(n:Int):n+1≤s.count n∧(0≤n→s.count n≤2000→s.Sm):=by
 unfold Sig.count
 obtain⟨a1,a2⟩:=fo_sm s.formals (n+((s.name.length / 50:Nat):Int))
 obtain⟨b1,b2⟩:=pa_sm s.params (foCount s.formals (n+((s.name.length / 50:Nat):Int)))
 have c1:=Ty.count_ge s.result (paCount s.params (foCount s.formals (n+((s.name.length / 50:Nat):Int))))
 refine⟨by omega,fun h0 h=>?_⟩
 obtain⟨a3,a4⟩:=a2 (by omega) (by omega)
 obtain⟨b3,b4⟩:=b2 (by omega) (by omega)
 exact⟨by unfold sm;omega,⟨by unfold sm;omega,a4⟩,⟨by unfold sm;omega,b4⟩,Ty.count_sm _ _ (by omega) h⟩
theorem si_sm:LSm siCount Sig.Sm:=list_sm siCount Sig.count Sig.Sm (fun _=>rfl) (fun _ _ _=>rfl) (fun x k=>(Sig.count_sm x k).1) (fun x k=>(Sig.count_sm x k).2)
theorem Decl.count_sm (d:Decl)(n:Int):n+1≤d.count n∧(0≤n→d.count n≤2000→d.Sm):=by
 unfold Decl.count
 generalize hm:n+1+((d.name.length / 50:Nat):Int)+((d.recv.length / 50:Nat):Int)=m
 obtain⟨a1,a2⟩:=fo_sm d.formals m
 obtain⟨b1,b2⟩:=pa_sm d.fields (foCount d.formals m)
 obtain⟨c1,c2⟩:=si_sm d.sigs (paCount d.fields (foCount d.formals m))
 obtain⟨e1,e2⟩:=va_sm d.vars (siCount d.sigs (paCount d.fields (foCount d.formals m)))
 generalize hz:vaCount d.vars (siCount d.sigs (paCount d.fields (foCount d.formals m)))=z at *
 unfold Decl.count2
 obtain⟨f1,f2⟩:=Sig.count_sm d.sig z
 have g1:=Ex.count_ge d.body (d.sig.count z)
 refine⟨by split <;> omega,fun h0 h=>?_⟩
 split at h
 ·obtain⟨a3,a4⟩:=a2 (by omega) (by omega)
  obtain⟨b3,b4⟩:=b2 (by omega) (by omega)
  obtain⟨c3,c4⟩:=c2 (by omega) (by omega)
  obtain⟨e3,e4⟩:=e2 (by omega) (by omega)
  exact⟨by unfold sm;omega,⟨by unfold sm;omega,a4⟩,⟨by unfold sm;omega,b4⟩,⟨by unfold sm;omega,c4⟩,by unfold sm;omega,⟨by unfold sm;omega,e4⟩,f2 (by omega) (by omega),Ex.count_sm _ _ (by omega) h⟩
 ·omega
theorem de_sm:LSm deCount Decl.Sm:=list_sm deCount Decl.count Decl.Sm (fun _=>rfl) (fun _ _ _=>rfl) (fun x k=>(Decl.count_sm x k).1) (fun x k=>(Decl.count_sm x k).2)
theorem Prog.count_sm (p:Prog)(h:p.count≤600):p.Sm∧p.decls.length≤2000:=by
 unfold Prog.count at h
 have h1:=Ex.count_ge p.main 0
 obtain⟨a1,a2⟩:=de_sm p.decls (p.main.count 0)
 obtain⟨a3,a4⟩:=a2 (by omega) (by omega)
 exact⟨⟨⟨by unfold sm;omega,a4⟩,Ex.count_sm p.main 0 (by omega) (by omega)⟩,by omega⟩
end Go.Abs
namespace Go.Abs
set_option linter.unusedSimpArgs false
set_option linter.unusedVariables false
open Go Go.Proofs
set_option maxRecDepth 100000
set_option maxHeartbeats 1000000
def tkey (a b:Str):D:=.agg [.str a,.str b]
def isStr (P:Program)(t:TypeId):Bool:=match P.underlying t with | some .string=>true | _=>false
def twoStr (P:Program)(kt:TypeId):Bool:=match P.underlying kt with
 | some (.struct fs)=>match fs.toList with
  | [f1,f2]=>f1.offset == 0 && f2.offset == 1 && isStr P f1.type && isStr P f2.type && P.cellsOf f1.type == 1 && P.cellsOf f2.type == 1 && P.cellsOf kt == 2 && fs.all (·.name != "_") && Nat.ble 1 P.types.size
  | _=>false
 | _=>false
theorem isStr_eq {P:Program} {t:TypeId} (h:isStr P t=true):P.underlying t=some .string:=by
 unfold isStr at h
 split at h <;> simp_all
theorem key_two {P:Program} {kt:TypeId} (h:twoStr P kt=true)(a b:Str)(ha:a.length≤lim)(hb:b.length≤lim):KeyAt P kt (tkey a b):=by
 unfold twoStr at h
 split at h
 ·rename_i fs hu
  split at h
  ·rename_i f1 f2 hfs
   simp only [Bool.and_eq_true,beq_iff_eq,Nat.ble_eq] at h
   obtain⟨⟨⟨⟨⟨⟨⟨⟨o1,o2⟩,u1⟩,u2⟩,c1⟩,c2⟩,ct⟩,hn⟩,hsz⟩:=h
   obtain⟨d,hd⟩:∃ d,P.types.size+1=d+2:=⟨P.types.size - 1,by omega⟩
   refine⟨rfl,?_,?_⟩
   ·simp [tkey,D.kv,Value.formed,hu,ct]
   ·rw [hd]
    have e1:∀ s:Str,s.length≤lim→P.keyLits (d+1) f1.type [.string ⟨s.toArray⟩]=some [.string s]:=fun s hs=>by
     simp [Program.keyLits,isStr_eq u1,ByteArray.size]
     unfold lim at hs;unfold maxLen;omega
    have e2:∀ s:Str,s.length≤lim→P.keyLits (d+1) f2.type [.string ⟨s.toArray⟩]=some [.string s]:=fun s hs=>by
     simp [Program.keyLits,isStr_eq u2,ByteArray.size]
     unfold lim at hs;unfold maxLen;omega
    unfold Program.keyLits
    rw [hu]
    simp only [tkey,D.kv,Value.cells,List.map_cons,List.map_nil,D.lit,Lit.value,List.length_cons,List.length_nil,ct,hn,and_self,if_true,hfs,List.mapM_cons,List.mapM_nil,o1,o2,c1,c2,
     List.drop_zero,List.drop_succ_cons,List.take_succ_cons,List.take_zero,e1 a ha,e2 b hb]
    rfl
  ·simp at h
 ·simp at h
theorem two79:twoStr Tryz.prog 118=true:=by kernel_rfl
def keyOfD (d:Decl):Option D:=if d.kind=1∨d.kind=2 then some (tkey d.name []) else if d.kind=3 then some (tkey d.name (46::d.sig.name)) else none
def tabStep (m:List (D × D))(i:Nat)(d:Decl):List (D × D):=match keyOfD d with
 | none=>m
 | some k=>if (kfind k.lits m 0).isSome=true then m else kput k (.int .i64 i) m
def tabF:List Decl→Nat→List (D × D)→List (D × D)
 | [],_,m=>m
 | d::ds,i,m=>tabF ds (i+1) (tabStep m i d)
def tabM (p:Prog):List (D × D):=tabF p.decls 0 []
def tabC (p:Prog):List D:=prC p++[.map (tabM p)]
theorem kput_keys {P:Program} {kt:TypeId} {m:List (D × D)} {k v:D} (h:∀ kv,kv∈m→KeyAt P kt kv.1)(hk:KeyAt P kt k):∀ kv,kv∈kput k v m→KeyAt P kt kv.1:=by
 intro kv hkv
 unfold kput at hkv
 split at hkv
 ·rcases List.mem_or_eq_of_mem_set hkv with hkv | rfl
  ·exact h kv hkv
  ·exact hk
 ·rcases List.mem_append.1 hkv with hkv | hkv
  ·exact h kv hkv
  ·simp only [List.mem_cons,List.not_mem_nil,or_false] at hkv
   subst hkv;exact hk
theorem ok_New (p:Prog)(h:p.Sm):CallOK Tryz.prog 30 [prV p] (.dptr (tabC p) 0):=by
 (refine CallOK.of_body Tryz.func30 rfl (by decide) (by rw [Tryz.ntmps30];simp) ?_;rw [Tryz.ntmps30])
 (refine AWp.seqR [0,1,2,3,4,5,6,8,11,13,18,19,20,21,29,30,33,50] [] (by decide +kernel) fun K hK=>?_;simp -implicitDefEqProofs only [EV,Nat.reduceEqDiff,Nat.reduceLeDiff,reduceCtorEq,];refine hK _ _ ?_;clear hK K)
 (refine AWp.seqR [0,1,2,3,4,5,6,8,11,13,18,19,20,21,29,30,33,50] [] (by decide +kernel) fun K hK=>?_;simp -implicitDefEqProofs only [EV,Nat.reduceAdd,Nat.reduceEqDiff,Nat.reduceBEq,Nat.reduceLeDiff,reduceCtorEq,TF30,TF116])
 refine⟨prV p,.inl ⟨_,rfl,ok_PClone p h,rfl⟩,?_⟩
 simp -implicitDefEqProofs only [EV,Nat.reduceAdd,Nat.reduceEqDiff,Nat.reduceBEq,Nat.reduceLeDiff,reduceCtorEq,]
 (refine hK _ _ ?_;clear hK K)
 have hlen:=h.decls.1
 refine AWp.seqK fun K1 hK1=>?_
 have fin:∀ sl bx,sle sl [(3,.box 13 0)]→ble bx [(13,.cells ((prC p).map .d++[.mp 11])),(11,.map (tabM p))]→K1 sl bx:=by
  intro sl bx h1 h2
  refine hK1 _ _ (AWp.weaken h1 h2 ?_)
  clear hK1 K1
  refine AWp.publishMap 11 rfl ?_
  refine AWp.weaken (sl':=[(3,.box 13 0)]) (bx':=[(13,.cells ((tabC p).map .d))]) (by simp [subSl,SV.sub,sle,vle,sget]) (by simp [subBx,BoxC.sub,SV.subL,SV.sub,ble,bget,berase,tabC,prC]) ?_
  refine AWp.freeze 13 rfl rfl ?_
  refine AWp.weaken (sl':=[(3,.dptr (tabC p) 0)]) (bx':=[]) (by simp [subSl,SV.sub,sle,vle,sget];rfl) trivial ?_
  (refine AWp.seqR [0,1,2,3,4,5,6,8,11,13,18,19,20,21,29,30,33,50] [] (by decide +kernel) fun K hK=>?_;simp -implicitDefEqProofs only [EV,Nat.reduceEqDiff,reduceCtorEq,];refine hK _ _ ?_;clear hK K)
  exact AWp.ret ⟨_,by rw [Tryz.results30];rfl,rfl⟩
 (refine AWp.seqR [0,1,2,3,4,5,6,8,11,13,18,19,20,21,29,30,33,50] [] (by decide +kernel) fun K hK=>?_;simp -implicitDefEqProofs only [EV,Nat.reduceEqDiff,reduceCtorEq,TF22,TF30,TF116];refine hK _ _ ?_;clear hK K)
 refine AWp.block (AWp.loop (X:=Nat × List (D × D)) (fun x=>[(20,intV x.1),(19,intV p.decls.length),(18,.d (.slice (deR p.decls))),(3,.box 13 0)])
  (fun x=>[(13,.cells ((prC p).map .d++[.mp 11])),(11,.map x.2)])
  (fun x=>x.1≤p.decls.length∧(∀ kv,kv∈x.2→KeyAt Tryz.prog 118 kv.1)∧tabF (p.decls.drop x.1) x.1 x.2=tabM p) (fun x=>p.decls.length - x.1) (0,[]) ?_ ?_ ?_ ?_)
 ·exact⟨by simp,by simp,rfl⟩
 ·exact (by simp [sle,vle,sget])
 ·exact (by simp [ble,bget,prC])
 rintro⟨j,m⟩ ⟨hj,hm,heq⟩
 simp only at hj hm heq
 by_cases hlt:(j:Int) < (p.decls.length:Int)
 ·have hlt':j < p.decls.length:=by omega
  have hy:p.decls[j]? = some p.decls[j]:=List.getElem?_eq_getElem hlt'
  have hmem:p.decls[j]∈p.decls:=List.getElem_mem hlt'
  have hdrop:p.decls.drop j=p.decls[j]::p.decls.drop (j+1):=List.drop_eq_getElem_cons hlt'
  generalize p.decls[j]=y at *
  rw [hdrop,tabF] at heq
  (refine AWp.seqR [0,1,2,3,4,5,6,8,11,13,18,19,20,21,29,30,33,50] [] (by decide +kernel) fun K hK=>?_;simp -implicitDefEqProofs only [EV,Nat.reduceEqDiff,reduceCtorEq,hlt];refine hK _ _ ?_;clear hK K)
  refine AWp.seqK fun K2 hK2=>?_
  refine AWp.condT rfl (AWp.skip (hK2 _ _ ?_))
  clear hK2 K2
  refine AWp.seqK fun K2 hK2=>?_
  have fin2:∀ sl bx m',sle sl [(20,intV j),(19,intV p.decls.length),(18,.d (.slice (deR p.decls))),(3,.box 13 0)]→ble bx [(13,.cells ((prC p).map .d++[.mp 11])),(11,.map m')] →
    (∀ kv,kv∈m'→KeyAt Tryz.prog 118 kv.1)→m'=tabStep m j y→K2 sl bx:=by
   rintro sl bx m' h1 h2 h3 rfl
   refine hK2 _ _ (AWp.weaken h1 h2 ?_)
   clear hK2 K2 h1 h2
   (refine AWp.lastR [0,1,2,3,4,5,6,8,11,13,18,19,20,21,29,30,33,50] [] (by decide +kernel) fun K hK=>?_;simp -implicitDefEqProofs only [EV,Nat.reduceEqDiff,reduceCtorEq,])
   refine⟨by unfold InR;unfold sm at *;omega,?_⟩
   (refine hK _ _ ?_;clear hK K;try simp only [thenA,])
   exact⟨(j+1,tabStep m j y),⟨by simp only;omega,h3,heq⟩,by simp only;omega,by simp [sle,vle,sget],(by simp [ble,bget,prC])⟩
  clear hK2
  refine AWp.block ?_
  (refine AWp.seqR [0,1,2,3,4,5,6,8,11,13,18,19,20,21,29,30,33,50] [] (by decide +kernel) fun K hK=>?_;simp -implicitDefEqProofs only [EV,Nat.reduceEqDiff,reduceCtorEq,TF22,TF80,])
  refine⟨by omega,deC y,deR_get hy,rfl,?_⟩
  simp -implicitDefEqProofs only [EV,Nat.reduceAdd,Nat.reduceEqDiff,Nat.reduceBEq,Nat.reduceLeDiff,reduceCtorEq,TF80,]
  (refine hK _ _ ?_;clear hK K)
  (refine AWp.seqR [0,1,2,3,4,5,6,8,11,13,18,19,20,21,29,30,33,50] [] (by decide +kernel) fun K hK=>?_;simp -implicitDefEqProofs only [EV,Nat.reduceAdd,Nat.reduceEqDiff,Nat.reduceBEq,Nat.reduceLeDiff,reduceCtorEq,TF9,TF80,TF118];refine hK _ _ ?_;clear hK K)
  have hyn:y.name.length≤lim:=Nat.le_trans (h.decls.2 y hmem).name (by unfold sm lim;omega)
  refine AWp.seqK fun K3 hK3=>?_
  have fin3:∀ sl bx (mth:Str),sle sl [(4,intV j),(6,.box 6 0),(20,intV j),(19,intV p.decls.length),(18,.d (.slice (deR p.decls))),(3,.box 13 0)] →
    ble bx [(13,.cells ((prC p).map .d++[.mp 11])),(11,.map m),(6,.cells [.d (.str y.name),.d (.str mth)])]→keyOfD y=some (tkey y.name mth)→mth.length≤lim→K3 sl bx:=by
   intro sl bx mth h1 h2 hkey hml
   refine hK3 _ _ (AWp.weaken h1 h2 ?_)
   clear hK3 K3 h1 h2
   have hk79:=key_two two79 y.name mth hyn hml
   (refine AWp.seqD [0,1,2,3,4,5,6,8,11,13,18,19,20,21,29,30,33,50] [] 11 mixed (by decide +kernel) (by decide +kernel) fun K hK=>?_;simp -implicitDefEqProofs only [EV,Nat.reduceAdd,Nat.reduceEqDiff,reduceCtorEq,TF114,TF116,TF118])
   refine⟨hm,hk79,?_⟩
   (refine hK _ _ ?_;clear hK K)
   by_cases hs:(kfind (D.agg [D.str y.name,D.str mth]).lits m 0).isSome=true
   ·have ht:tabStep m j y=m:=by simp only [tabStep,hkey];exact if_pos hs
    rw [hs]
    (refine AWp.seqR [0,1,2,3,4,5,6,8,11,13,18,19,20,21,29,30,33,50] [] (by decide +kernel) fun K hK=>?_;simp -implicitDefEqProofs only [EV,Nat.reduceEqDiff,reduceCtorEq,];refine hK _ _ ?_;clear hK K)
    refine AWp.condF rfl (AWp.skip ?_)
    simp only [thenA,blockA]
    exact fin2 _ _ m (by simp [sle,vle,sget]) (by simp [ble,bget,prC]) hm ht.symm
   ·have ht:tabStep m j y=kput (tkey y.name mth) (.int .i64 j) m:=by simp only [tabStep,hkey];exact if_neg hs
    rw [Bool.not_eq_true] at hs
    rw [hs]
    (refine AWp.seqR [0,1,2,3,4,5,6,8,11,13,18,19,20,21,29,30,33,50] [] (by decide +kernel) fun K hK=>?_;simp -implicitDefEqProofs only [EV,Nat.reduceEqDiff,reduceCtorEq,];refine hK _ _ ?_;clear hK K)
    refine AWp.condT rfl ?_
    (refine AWp.lastD [0,1,2,3,4,5,6,8,11,13,18,19,20,21,29,30,33,50] [] 6 mixed (by decide +kernel) (by decide +kernel) fun K hK=>?_;simp -implicitDefEqProofs only [EV,Nat.reduceAdd,Nat.reduceEqDiff,reduceCtorEq,TF114,TF116,TF118])
    refine⟨hm,hk79,?_⟩
    (refine hK _ _ ?_;clear hK K;try simp only [thenA,blockA])
    exact fin2 _ _ _ (by simp [sle,vle,sget]) (by simp [ble,bget,prC];rfl) (kput_keys hm hk79) ht.symm
  (refine AWp.seqR [0,1,2,3,4,5,6,8,11,13,18,19,20,21,29,30,33,50] [] (by decide +kernel) fun K hK=>?_;simp -implicitDefEqProofs only [EV,Nat.reduceEqDiff,reduceCtorEq,TF3,TF80,];refine hK _ _ ?_;clear hK K)
  refine AWp.block ?_
  refine AWp.seqK fun K4 hK4=>?_
  by_cases hk1:y.kind=1
  ·(refine AWp.seqR [0,1,2,3,4,5,6,8,11,13,18,19,20,21,29,30,33,50] [] (by decide +kernel) fun K hK=>?_;simp -implicitDefEqProofs only [EV,Nat.reduceEqDiff,reduceCtorEq,hk1];refine hK _ _ ?_;clear hK K)
   refine AWp.condT rfl (AWp.skip (hK4 _ _ ?_))
   clear hK4 K4
   refine AWp.condT rfl (AWp.skip ?_)
   simp only [thenA,blockA]
   exact fin3 _ _ [] (by simp [sle,vle,sget]) (by simp [ble,bget,prC]) (by simp [keyOfD,hk1]) (by simp)
  ·by_cases hk2:y.kind=2
   ·(refine AWp.seqR [0,1,2,3,4,5,6,8,11,13,18,19,20,21,29,30,33,50] [] (by decide +kernel) fun K hK=>?_;simp -implicitDefEqProofs only [EV,Nat.reduceEqDiff,reduceCtorEq,hk1];refine hK _ _ ?_;clear hK K)
    refine AWp.condF rfl ?_
    (refine AWp.lastR [0,1,2,3,4,5,6,8,11,13,18,19,20,21,29,30,33,50] [] (by decide +kernel) fun K hK=>?_;simp -implicitDefEqProofs only [EV,Nat.reduceEqDiff,reduceCtorEq,hk2])
    (refine hK _ _ ?_;clear hK K;try simp only [thenA,])
    refine hK4 _ _ ?_
    clear hK4 K4
    refine AWp.condT rfl (AWp.skip ?_)
    simp only [thenA,blockA]
    exact fin3 _ _ [] (by simp [sle,vle,sget]) (by simp [ble,bget,prC]) (by simp [keyOfD,hk2]) (by simp)
   ·(refine AWp.seqR [0,1,2,3,4,5,6,8,11,13,18,19,20,21,29,30,33,50] [] (by decide +kernel) fun K hK=>?_;simp -implicitDefEqProofs only [EV,Nat.reduceEqDiff,reduceCtorEq,hk1];refine hK _ _ ?_;clear hK K)
    refine AWp.condF rfl ?_
    (refine AWp.lastR [0,1,2,3,4,5,6,8,11,13,18,19,20,21,29,30,33,50] [] (by decide +kernel) fun K hK=>?_;simp -implicitDefEqProofs only [EV,Nat.reduceEqDiff,reduceCtorEq,hk2])
    (refine hK _ _ ?_;clear hK K;try simp only [thenA,])
    refine hK4 _ _ ?_
    clear hK4 K4
    refine AWp.condF rfl ?_
    by_cases hk3:y.kind=3
    ·(refine AWp.seqR [0,1,2,3,4,5,6,8,11,13,18,19,20,21,29,30,33,50] [] (by decide +kernel) fun K hK=>?_;simp -implicitDefEqProofs only [EV,Nat.reduceEqDiff,reduceCtorEq,hk3];refine hK _ _ ?_;clear hK K)
     refine AWp.condT rfl ?_
     have hsl:=(h.decls.2 y hmem).sig.name
     have hc46:(ByteArray.mk #[46]).size≤lim:=by decide
     (refine AWp.lastR [0,1,2,3,4,5,6,8,11,13,18,19,20,21,29,30,33,50] [] (by decide +kernel) fun K hK=>?_;simp -implicitDefEqProofs only [EV,Nat.reduceAdd,Nat.reduceEqDiff,Nat.reduceLeDiff,reduceCtorEq,TF9,TF78,TF80,TF118])
     refine⟨by unfold sm lim at *;first | omega | (simp;omega),?_⟩
     (refine hK _ _ ?_;clear hK K;try simp only [thenA,blockA])
     exact fin3 _ _ (46::y.sig.name) (by simp [sle,vle,sget]) (by simp [ble,bget,prC]) (by simp [keyOfD,hk3]) (by simp only [List.length_cons];unfold sm lim at *;omega)
    ·(refine AWp.seqR [0,1,2,3,4,5,6,8,11,13,18,19,20,21,29,30,33,50] [] (by decide +kernel) fun K hK=>?_;simp -implicitDefEqProofs only [EV,Nat.reduceEqDiff,reduceCtorEq,hk3];refine hK _ _ ?_;clear hK K)
     refine AWp.condF rfl (AWp.exit ?_)
     simp only [thenA,blockA]
     rw [if_neg (by decide)]
     exact fin2 _ _ m (by simp [sle,vle,sget]) (by simp [ble,bget,prC]) hm (by simp [tabStep,keyOfD,hk1,hk2,hk3])
 ·(refine AWp.seqR [0,1,2,3,4,5,6,8,11,13,18,19,20,21,29,30,33,50] [] (by decide +kernel) fun K hK=>?_;simp -implicitDefEqProofs only [EV,Nat.reduceEqDiff,reduceCtorEq,hlt];refine hK _ _ ?_;clear hK K)
  refine AWp.seqK fun K2 hK2=>?_
  refine AWp.condF rfl (AWp.exit ?_)
  simp only [thenA,blockA,if_true]
  rw [List.drop_eq_nil_of_le (by omega),tabF] at heq
  exact fin _ _ (by simp [sle,vle,sget]) (by rw [← heq];exact (by simp [ble,bget,prC]))
end Go.Abs
namespace Go.Abs
set_option linter.unusedSimpArgs false
set_option linter.unusedVariables false
open Go Go.Proofs
def kval (l:List Lit)(m:List (D × D)):Option D:=(kfind l m 0).map (·.2)
theorem kfind_shift (l:List Lit):∀ (m:List (D × D))(i:Nat),(kfind l m i).map (·.2)=kval l m
 | [],i=>rfl
 | kv::r,i=>by
  unfold kval
  simp only [kfind]
  split
  ·rfl
  ·rw [kfind_shift l r (i+1),kfind_shift l r (0+1)]
theorem kval_cons (l:List Lit)(k v:D)(m:List (D × D)):kval l ((k,v)::m)=if l=k.lits then some v else kval l m:=by
 unfold kval
 simp only [kfind]
 split
 ·rfl
 ·exact kfind_shift l m 1
theorem kval_app (l:List Lit)(k v:D):∀ m:List (D × D),kval l (m++[(k,v)])=match kval l m with | some x=>some x | none=>if l=k.lits then some v else none
 | []=>by rw [List.nil_append,kval_cons];rfl
 | (k',v')::m=>by
  rw [List.cons_append,kval_cons,kval_cons,kval_app l k v m]
  split <;> rfl
def firstK (l:List Lit):List Decl→Nat→Option D
 | [],_=>none
 | d::ds,i=>match keyOfD d with
  | some k=>if l=k.lits then some (.int .i64 i) else firstK l ds (i+1)
  | none=>firstK l ds (i+1)
theorem kval_tabF (l:List Lit):∀ (ds:List Decl)(i:Nat)(m:List (D × D)),kval l (tabF ds i m)=match kval l m with | some x=>some x | none=>firstK l ds i
 | [],i,m=>by simp only [tabF,firstK];cases kval l m <;> rfl
 | d::ds,i,m=>by
  simp only [tabF,firstK]
  rw [kval_tabF l ds (i+1)]
  unfold tabStep
  cases hk:keyOfD d with
  | none=>rfl
  | some k =>
   simp only
   by_cases hs:(kfind k.lits m 0).isSome=true
   ·rw [if_pos hs]
    cases hm:kval l m with
    | some x=>rfl
    | none =>
     simp only
     rw [if_neg]
     rintro rfl
     unfold kval at hm
     cases hf:kfind k.lits m 0 <;> simp [hf] at hs hm
   ·rw [if_neg hs]
    have hn:kfind k.lits m 0=none:=by cases hf:kfind k.lits m 0 <;> simp [hf] at hs ⊢
    unfold kput
    rw [hn]
    simp only
    rw [kval_app]
    cases hm:kval l m with
    | some x=>rfl
    | none =>
     simp only
     by_cases hl:l=k.lits
     ·rw [if_pos hl,if_pos hl]
     ·rw [if_neg hl,if_neg hl]
end Go.Abs
namespace Go.Abs
set_option linter.unusedSimpArgs false
set_option linter.unusedVariables false
open Go Go.Proofs
set_option maxRecDepth 100000
set_option maxHeartbeats 1000000
def tabGet (p:Prog)(k:D):Option Decl:=p.decls.find? fun d=>match keyOfD d with | some k'=>decide (k.lits=k'.lits) | none=>false
theorem firstK_find (l:List Lit):∀ (ds:List Decl)(i:Nat),(firstK l ds i=none∧(ds.find? fun d=>match keyOfD d with | some k'=>decide (l=k'.lits) | none=>false)=none) ∨
  ∃ j d,ds[j]? = some d∧firstK l ds i=some (.int .i64 ((i+j:Nat):Int))∧(ds.find? fun d=>match keyOfD d with | some k'=>decide (l=k'.lits) | none=>false)=some d
 | [],i=>.inl ⟨rfl,rfl⟩
 | d::ds,i=>by
  simp only [firstK,List.find?_cons]
  have ih:=firstK_find l ds (i+1)
  cases hk:keyOfD d with
  | none =>
   simp only
   rcases ih with h | ⟨j,d',h1,h2,h3⟩
   ·exact .inl h
   ·exact .inr ⟨j+1,d',by simpa using h1,by rw [h2];congr 3;omega,h3⟩
  | some k =>
   simp only
   by_cases hl:l=k.lits
   ·simp only [hl,if_true,decide_true]
    exact .inr ⟨0,d,rfl,by simp,rfl⟩
   ·simp only [hl,if_false,decide_false]
    rcases ih with h | ⟨j,d',h1,h2,h3⟩
    ·exact .inl h
    ·exact .inr ⟨j+1,d',by simpa using h1,by rw [h2];congr 3;omega,h3⟩
instance:Inhabited Prog:=⟨⟨[],default⟩⟩
theorem tabM_keys (p:Prog)(h:p.Sm):∀ kv,kv∈tabM p→KeyAt Tryz.prog 118 kv.1:=by
 have go:∀ (ds:List Decl) (i:Nat) (m:List (D × D)),(∀ d,d∈ds→d.Sm)→(∀ kv,kv∈m→KeyAt Tryz.prog 118 kv.1)→∀ kv,kv∈tabF ds i m→KeyAt Tryz.prog 118 kv.1:=by
  intro ds
  induction ds with
  | nil=>intro i m _ h;exact h
  | cons d ds ih =>
   intro i m hd hm
   refine ih (i+1) _ (fun x hx=>hd x (by simp [hx])) ?_
   have hdm:=hd d (by simp)
   unfold tabStep
   cases hk:keyOfD d with
   | none=>exact hm
   | some k =>
    simp only
    split
    ·exact hm
    ·refine kput_keys hm ?_
     unfold keyOfD at hk
     have h1:=hdm.name
     have h2:=hdm.sig.name
     split at hk
     ·simp only [Option.some.injEq] at hk;subst hk
      exact key_two two79 _ _ (by unfold sm lim at *;omega) (by simp)
     ·split at hk
      ·simp only [Option.some.injEq] at hk;subst hk
       exact key_two two79 _ _ (by unfold sm lim at *;omega) (by simp only [List.length_cons];unfold sm lim at *;omega)
      ·simp at hk
 exact go p.decls 0 [] h.decls.2 (by simp)
theorem ok_get (p:Prog)(h:p.Sm)(a b:Str):CallOK Tryz.prog 137 [.dptr (tabC p) 0,.agg [.d (.str a),.d (.str b)]]
  (.tuple [deV ((tabGet p (tkey a b)).getD default),boolV (tabGet p (tkey a b)).isSome]):=by
 refine CallB.bd (Enters.of Tryz.func137 rfl (by decide)) fun hbd=>?_
 have hbd2:=hbd.2.1
 simp only [SV.bd,SV.bdL] at hbd2
 have hk:=key_two two79 a b (str_bd hbd2.1) (str_bd hbd2.2.1)
 have hkv:kval (tkey a b).lits (tabM p)=firstK (tkey a b).lits p.decls 0:=by unfold tabM;rw [kval_tabF];rfl
 unfold kval at hkv
 (refine CallOK.of_body Tryz.func137 rfl (by decide) (by rw [Tryz.ntmps137];simp) ?_;rw [Tryz.ntmps137])
 (refine AWp.seqR [0,1,3,4,5,6,7,9,21] [] (by decide +kernel) fun K hK=>?_;simp -implicitDefEqProofs only [EV,Nat.reduceAdd,Nat.reduceEqDiff,Nat.reduceBEq,Nat.reduceLeDiff,reduceCtorEq,TF80,];refine hK _ _ ?_;clear hK K)
 refine AWp.seqK fun K1 hK1=>?_
 (refine AWp.seqR [0,1,3,4,5,6,7,9,21] [] (by decide +kernel) fun K hK=>?_;simp -implicitDefEqProofs only [EV,Nat.reduceEqDiff,reduceCtorEq,TF56];refine hK _ _ ?_;clear hK K)
 refine AWp.condF rfl (AWp.skip (hK1 _ _ ?_))
 clear hK1 K1
 (refine AWp.seqD [0,1,3,4,5,6,7,9,21] [] 11 mixed (by decide +kernel) (by decide +kernel) fun K hK=>?_;simp -implicitDefEqProofs only [EV,Nat.reduceAdd,Nat.reduceEqDiff,reduceCtorEq,TF114,TF116,TF118,tabC])
 refine⟨tabM_keys p h,hk,?_⟩
 (refine hK _ _ ?_;clear hK K)
 refine AWp.seqK fun K1 hK1=>?_
 rcases firstK_find (tkey a b).lits p.decls 0 with ⟨h1,h2⟩ | ⟨j,d,h1,h2,h3⟩
 ·rw [h1] at hkv
  have hn:kfind (D.agg [D.str a,D.str b]).lits (tabM p) 0=none:=by simpa [tkey] using hkv
  have hg:tabGet p (tkey a b)=none:=h2
  rw [hn]
  (refine AWp.seqR [0,1,3,4,5,6,7,9,21] [] (by decide +kernel) fun K hK=>?_;simp -implicitDefEqProofs only [EV,Nat.reduceEqDiff,reduceCtorEq,];refine hK _ _ ?_;clear hK K)
  refine AWp.condT rfl ?_
  (refine AWp.seqR [0,1,3,4,5,6,7,9,21] [] (by decide +kernel) fun K hK=>?_;simp -implicitDefEqProofs only [EV,Nat.reduceAdd,Nat.reduceEqDiff,reduceCtorEq,TF80,];refine hK _ _ ?_;clear hK K)
  rw [hg]
  exact AWp.ret ⟨_,by rw [Tryz.results137];rfl,rfl⟩
 ·rw [h2] at hkv
  obtain⟨q,hq⟩:∃ q,kfind (D.agg [D.str a,D.str b]).lits (tabM p) 0=some (q,.int .i64 ((0+j:Nat):Int)):=by
   cases hf:kfind (D.agg [D.str a,D.str b]).lits (tabM p) 0 with
   | none=>rw [show (tkey a b).lits=(D.agg [D.str a,D.str b]).lits from rfl,hf] at hkv;simp at hkv
   | some qd =>
    rw [show (tkey a b).lits=(D.agg [D.str a,D.str b]).lits from rfl,hf] at hkv
    obtain⟨q,d'⟩:=qd
    simp only [Option.map_some,Option.some.injEq] at hkv
    exact⟨q,by rw [hkv]⟩
  have hl:lookV (D.agg [D.str a,D.str b]) (tabM p) (SV.d (D.int IntKind.i64 0))=intV j:=by simp only [lookV,hq,ofD,Nat.zero_add]
  have hg:tabGet p (tkey a b)=some d:=h3
  rw [hl,hq]
  (refine AWp.seqR [0,1,3,4,5,6,7,9,21] [] (by decide +kernel) fun K hK=>?_;simp -implicitDefEqProofs only [EV,Nat.reduceEqDiff,reduceCtorEq,];refine hK _ _ ?_;clear hK K)
  refine AWp.condF rfl (AWp.skip (hK1 _ _ ?_))
  clear hK1 K1
  (refine AWp.seqR [0,1,3,4,5,6,7,9,21] [] (by decide +kernel) fun K hK=>?_;simp -implicitDefEqProofs only [EV,Nat.reduceEqDiff,reduceCtorEq,TF22,TF30,TF80,TF116])
  refine⟨by omega,deC d,deR_get h1,rfl,?_⟩
  simp -implicitDefEqProofs only [EV,Nat.reduceAdd,Nat.reduceEqDiff,reduceCtorEq,TF80,]
  (refine hK _ _ ?_;clear hK K)
  rw [hg]
  exact AWp.ret ⟨_,by rw [Tryz.results137];rfl,rfl⟩
end Go.Abs
namespace Go.Abs
set_option linter.unusedSimpArgs false
set_option linter.unusedVariables false
open Go Go.Proofs
set_option maxRecDepth 100000
set_option maxHeartbeats 1000000
theorem tabGet_type (p:Prog)(nm:Str):tabGet p (tkey nm [])=p.decls.find? (fun d=>d.isT nm):=by
 unfold tabGet
 congr 1
 funext d
 unfold keyOfD Decl.isT
 by_cases h1:d.kind=1∨d.kind=2
 ·rw [if_pos h1]
  rcases h1 with h1 | h1 <;> simp [h1,tkey,D.lits,D.lit,eq_comm]
 ·rw [if_neg h1]
  have h2:¬ d.kind=1:=fun h=>h1 (.inl h)
  have h3:¬ d.kind=2:=fun h=>h1 (.inr h)
  by_cases h4:d.kind=3 <;> simp [h2,h3,h4,tkey,D.lits,D.lit]
end Go.Abs
