/- castingsref01.Index, castingsref20: escape, list, Type, Method, Plain -/
import Derived.Test.YtbhbfpjnenekpaaGreatDoorJW04
namespace Go.Abs
set_option maxHeartbeats 1000000
set_option linter.unusedSimpArgs false
set_option linter.unusedVariables false
open Go Go.Proofs Tryz
set_option maxRecDepth 100000
set_option maxHeartbeats 2000000
abbrev q1Bx:List Nat:=[0,2,3,4,17,21,28,44]
theorem ok_RIndexNam (s:Str)(h:isName s=true):CallOK prog 118 [strV s] (intV (-1)):=by
 obtain⟨c,r,rfl,hc⟩:=isName_head h
 obtain⟨g1,g2,g3⟩:=cls_one hc
 have h36:¬ (c.toNat:Int)=36:=by
  intro h
  have:c.toNat=36:=by omega
  omega
 have h0:(c::r)[0]? = some c:=rfl
 have hlen:(c::r).length=r.length+1:=rfl
 generalize c::r=s at *
 by_cases h2:s.length < 2
 ·have h2':(s.length:Int) < 2:=by omega
  refine cB func118 ?_
  refine sR q1Bx ?_
  refine sR q1Bx ?_
  refine sK fun K1 u1=>?_
  (refine sQ q1Bx fun K z=>?_;simp -implicitDefEqProofs only [EV,forall_const,implies_true,Nat.reduceAdd,Nat.reduceEqDiff,Nat.reduceBEq,Nat.reduceLeDiff,Nat.reduceSub,Nat.reduceMul,Int.reduceEq,Int.reduceLT,Int.reduceLE,Int.reduceSub,Int.reduceAdd,Int.reduceToNat,reduceCtorEq,Int.reduceNeg,TF3,TF4,TF5,TF9,h2',decide_true];apply z;clear z K)
  refine tI ?_
  refine sR q1Bx ?_
  exact aR
 have h2':¬ (s.length:Int) < 2:=by omega
 by_cases h3:s.length > 11
 ·have h3':(s.length:Int) > 11:=by omega
  refine cB func118 ?_
  refine sR q1Bx ?_
  refine sR q1Bx ?_
  refine sK fun K1 u1=>?_
  (refine sQ q1Bx fun K z=>?_;simp -implicitDefEqProofs only [EV,forall_const,implies_true,Nat.reduceAdd,Nat.reduceEqDiff,Nat.reduceBEq,Nat.reduceLeDiff,Nat.reduceSub,Nat.reduceMul,Int.reduceEq,Int.reduceLT,Int.reduceLE,Int.reduceSub,Int.reduceAdd,Int.reduceToNat,reduceCtorEq,Int.reduceNeg,TF3,TF4,TF5,TF9,h2',h3',decide_true];apply z;clear z K)
  refine tI ?_
  refine sR q1Bx ?_
  exact aR
 have h3':¬ (s.length:Int) > 11:=by omega
 refine cB func118 ?_
 refine sR q1Bx ?_
 refine sR q1Bx ?_
 refine sK fun K1 u1=>?_
 (refine sQ q1Bx fun K z=>?_;refine ev3 h2' h3' h36 ?_;refine⟨c,h0,?_⟩;(try refine ev3 h2' h3' h36 ?_);apply z;clear z K)
 refine tI ?_
 refine sR q1Bx ?_
 exact aR
theorem escS_take {s:Str} {j:Nat} {c:UInt8} (h:s[j]? = some c):escS (s.take (j+1))=escS (s.take j)++(if c=95 then [95,95] else [c]):=by
 have hj:=(List.getElem?_eq_some_iff.1 h).1
 have hc:=(List.getElem?_eq_some_iff.1 h).2
 rw [List.take_succ_eq_append_getElem hj,escS_append,hc]
 simp [escS]
abbrev q2Bx:List Nat:=[0,2,3,4,8,21]
theorem ok_REsc (s:Str)(hs:s.length≤sm):CallOK prog 100 [strV s] (strV (escS s)):=by
 refine cB func100 ?_
 refine sR q2Bx ?_
 refine sR q2Bx ?_
 refine kR q2Bx fun K1 u1=>?_
 refine AWp.block (AWp.forIdx s (X:=Unit) (fun j _=>[(0,strV s),(3,strV (escS (s.take j))),(4,intV j)]) (fun _ _=>[])
  (fun _ _=>True) () trivial (by simp [sle,vle,sget,escS]) (by simp [ble,bget,exC,tyC,foC,paC,siC,deC,prC]) ?_ ?_)
 rotate_left
 ·intro j _ c hc hmem dp tk hlt _
  have hj:=(List.getElem?_eq_some_iff.1 hc).1
  have hel:=escS_len (s.take j)
  have he:((j:Int)+1).toNat=j+1:=by omega
  have hcut:List.drop j (List.take (j+1) s)=[c]:=by
   rw [List.take_succ_eq_append_getElem hj,List.drop_left' (by simp;omega),(List.getElem?_eq_some_iff.1 hc).2]
  rw [List.length_take] at hel
  rw [escS_take hc]
  generalize escS (s.take j)=o at *
  refine kR1 hlt q2Bx fun K2 u2=>?_
  refine gI u2 ?_
  clear u2 K2
  refine sK fun K2 u2=>?_
  refine AWp.block ?_
  (refine sQ q2Bx fun K z=>?_;simp -implicitDefEqProofs only [EV,forall_const,implies_true,Nat.reduceAdd,Nat.reduceEqDiff,Nat.reduceBEq,Nat.reduceLeDiff,Nat.reduceSub,Nat.reduceMul,Int.reduceEq,Int.reduceLT,Int.reduceLE,Int.reduceSub,Int.reduceAdd,Int.reduceToNat,reduceCtorEq,Int.reduceNeg,TF3,TF4,TF9];rw [he,hcut];refine⟨by simp only [InR,sm] at *;omega,by omega,by omega,by omega,by simp only [List.length_cons,List.length_nil];unfold lim sm at *;omega,?_⟩;(try refine ev ?_);apply z;clear z K)
  by_cases h95:c=95
  ·have h95':(c.toNat:Int)=95:=by rw [h95];rfl
   rw [if_pos h95]
   subst h95
   (refine sQ q2Bx fun K z=>?_;refine ev1 h95' ?_;refine⟨by omega,_,hc,?_⟩;(try refine ev1 h95' ?_);apply z;clear z K)
   refine AWp.condT rfl ?_
   (refine lV q2Bx fun K z=>?_;refine⟨by simp only [List.length_append,List.length_cons,List.length_nil];unfold lim sm at *;omega,?_⟩;(try refine ev ?_);apply z;clear z K;try simp only [thenA,blockA,if_true])
   refine u2 _ _ ?_
   clear u2 K2
   (refine lV q2Bx fun K z=>?_;refine cl ?_;apply z;clear z K;try simp only [thenA,blockA,if_true])
   exact⟨(),trivial,by simp [sle,vle,sget],(by simp [ble,bget,exC,tyC,foC,paC,siC,deC,prC])⟩
  ·have h95':¬ (c.toNat:Int)=95:=fun h=>h95 (by
    have:c.toNat=95:=by omega
    exact UInt8.toNat_inj.1 this)
   rw [if_neg h95]
   (refine sQ q2Bx fun K z=>?_;refine ev1 h95' ?_;refine⟨by omega,_,hc,?_⟩;(try refine ev1 h95' ?_);apply z;clear z K)
   refine AWp.condF rfl (AWp.skip (u2 _ _ ?_))
   clear u2 K2
   (refine lV q2Bx fun K z=>?_;refine cl ?_;apply z;clear z K;try simp only [thenA,blockA,if_true])
   exact⟨(),trivial,by simp [sle,vle,sget,h95],(by simp [ble,bget,exC,tyC,foC,paC,siC,deC,prC])⟩
 intro _ _
 rw [List.take_length]
 refine kR1 Int.lt_irrefl q2Bx fun K2 u2=>?_
 refine AWp.stopK rfl ?_
 simp only [thenA,blockA,if_true]
 refine u1 _ _ ?_
 clear u2 K2 u1 K1
 refine sR q2Bx ?_
 exact aR
def mgP (l:List Ty)(j:Nat):Str:=if j=0 then [] else [95,76]++Lib.join ((l.take j).map Ty.mg) usC
theorem joinC_snoc (l:List Str)(x:Str)(h:l≠[]):Lib.join (l++[x]) usC=Lib.join l usC++usC++x:=by
 cases l with
 | nil=>exact absurd rfl h
 | cons y r=>simp [Lib.join_cons,Lib.joinTail]
theorem mgP_succ {l:List Ty} {j:Nat} {t:Ty} (h:l[j]? = some t):mgP l (j+1)=(if j=0 then mgP l j++[95,76] else mgP l j++usC)++t.mg:=by
 have hj:=(List.getElem?_eq_some_iff.1 h).1
 unfold mgP
 rw [if_neg (by omega),List.take_succ_eq_append_getElem hj,(List.getElem?_eq_some_iff.1 h).2,List.map_append]
 by_cases h0:j=0
 ·subst h0
  simp [Lib.join_cons,Lib.joinTail]
 ·rw [if_neg h0,if_neg h0,show [t].map Ty.mg=[t.mg] from rfl,joinC_snoc _ _ (by
   intro hn
   have:=congrArg List.length hn
   rw [List.length_map,List.length_take] at this
   simp only [List.length_nil] at this
   omega)]
  simp only [List.append_assoc]
theorem mgP_len (l:List Ty)(j:Nat):(mgP l j).length≤2*Ty.tlenL l+2:=by
 unfold mgP
 split
 ·simp
 ·have h1:=joinC_len ((l.take j).map Ty.mg)
  have h2:=Ty.mgL_len (l.take j)
  rw [Ty.mgL_eq] at h2
  have h3:∀ (m:List Ty) (j:Nat),Ty.tlenL (m.take j)≤Ty.tlenL m:=by
   intro m
   induction m with
   | nil=>intro j;simp [Ty.tlenL]
   | cons a m ih =>
    intro j
    cases j with
    | zero=>simp [Ty.tlenL]
    | succ j=>rw [List.take_succ_cons,Ty.tlenL,Ty.tlenL];have:=ih j;omega
  have:=h3 l j
  simp only [List.length_append,List.length_cons,List.length_nil]
  omega
theorem mgP_all (l:List Ty):(if l=[] then mgP l l.length else mgP l l.length++[95,82])=mgA l:=by
 unfold mgP mgA
 cases l with
 | nil=>rfl
 | cons a r=>rw [if_neg (by simp),if_neg (by simp),if_neg (by simp),List.take_length]
theorem mgP_nil {l:List Ty}:mgP l l.length=[]↔l=[]:=by
 unfold mgP
 cases l with
 | nil=>simp
 | cons a r=>rw [if_neg (by simp)];simp
abbrev q3Bx:List Nat:=[0,2,3,4,8,12,25]
theorem ok_RList20 (l:List Ty)(hl:l.length≤sm)(hlen:Ty.tlenL l≤10000000000000)(ih:∀ t,t∈l→CallOK prog 59 [tyV t] (strV t.mg)):CallOK prog 101 [.d (.slice (tyR l))] (strV (mgA l)):=by
 rw [← mgP_all]
 refine cB func101 ?_
 refine sR q3Bx ?_
 refine sR q3Bx ?_
 refine kR q3Bx fun K1 u1=>?_
 refine AWp.block (AWp.forIdx l (X:=Unit) (fun j _=>[(0,.d (.slice (tyR l))),(3,strV (mgP l j)),(4,intV j)]) (fun _ _=>[])
  (fun _ _=>True) () trivial (by simp [sle,vle,sget,mgP]) (by simp [ble,bget,exC,tyC,foC,paC,siC,deC,prC]) ?_ ?_)
 rotate_left
 ·intro j _ t ht hmem dp tk hlt _
  have hct:=ih t hmem
  have hpl:=mgP_len l j
  have hmt:=Ty.mg_len t
  have htl:=tlenL_mem hmem
  rw [mgP_succ ht]
  generalize mgP l j=o at *
  generalize t.mg=m at *
  refine kR1 hlt q3Bx fun K2 u2=>?_
  refine gI u2 ?_
  clear u2 K2
  refine sK fun K2 u2=>?_
  refine AWp.block ?_
  refine sK fun K3 u3=>?_
  by_cases h0:j=0
  ·subst h0
   have h0':((0:Nat):Int)=0:=rfl
   refine sR1 h0' q3Bx ?_
   refine AWp.condT rfl ?_
   (refine lV q3Bx fun K z=>?_;refine⟨by (try simp only [List.length_cons,List.length_nil]);unfold lim;omega,?_⟩;(try refine ev ?_);apply z;clear z K;try simp only [thenA,blockA,if_true])
   refine u3 _ _ ?_
   clear u3 K3
   (refine lV q3Bx fun K z=>?_;refine cj (tyR_get ht) ?_;refine cc hct ?_;refine⟨by (try simp only [List.length_append,List.length_cons,List.length_nil]);unfold lim;omega,?_⟩;(try refine ev ?_);apply z;clear z K;try simp only [thenA,blockA,if_true])
   refine u2 _ _ ?_
   clear u2 K2
   (refine lV q3Bx fun K z=>?_;refine cl ?_;apply z;clear z K;try simp only [thenA,blockA,if_true])
   exact⟨(),trivial,by simp [sle,vle,sget],(by simp [ble,bget,exC,tyC,foC,paC,siC,deC,prC])⟩
  ·have h0':¬ (j:Int)=0:=by omega
   rw [if_neg h0]
   refine sR1 h0' q3Bx ?_
   refine AWp.condF rfl ?_
   (refine lV q3Bx fun K z=>?_;refine⟨by (try simp only [List.length_cons,List.length_nil]);unfold lim;omega,?_⟩;(try refine ev ?_);apply z;clear z K;try simp only [thenA,blockA,if_true])
   refine u3 _ _ ?_
   clear u3 K3
   (refine lV q3Bx fun K z=>?_;refine ci (tyR_get ht) ?_;refine cc hct ?_;refine⟨by (try simp only [List.length_append,List.length_cons,List.length_nil]);unfold lim;omega,?_⟩;(try refine ev ?_);apply z;clear z K;try simp only [thenA,blockA,if_true])
   refine u2 _ _ ?_
   clear u2 K2
   (refine lV q3Bx fun K z=>?_;refine cl ?_;apply z;clear z K;try simp only [thenA,blockA,if_true])
   exact⟨(),trivial,by simp [sle,vle,sget,h0],(by simp [ble,bget,exC,tyC,foC,paC,siC,deC,prC])⟩
 intro _ _
 have hpl:=mgP_len l l.length
 have hn:=mgP_nil (l:=l)
 generalize mgP l l.length=o at *
 refine kR1 Int.lt_irrefl q3Bx fun K2 u2=>?_
 refine AWp.stopK rfl ?_
 simp only [thenA,blockA,if_true]
 refine u1 _ _ ?_
 clear u2 K2 u1 K1
 by_cases h0:l=[]
 ·have ho:o=[]:=hn.2 h0
  rw [if_pos h0]
  refine sK fun K1 u1=>?_
  (refine sQ q3Bx fun K z=>?_;simp -implicitDefEqProofs only [EV,forall_const,implies_true,Nat.reduceAdd,Nat.reduceEqDiff,Nat.reduceBEq,Nat.reduceLeDiff,Nat.reduceSub,Nat.reduceMul,Int.reduceEq,Int.reduceLT,Int.reduceLE,Int.reduceSub,Int.reduceAdd,Int.reduceToNat,reduceCtorEq,Int.reduceNeg,TF3,TF4,TF9,TF23,TF25,ho,decide_true];apply z;clear z K)
  refine tI ?_
  refine sR q3Bx ?_
  rw [ho]
  exact aR
 ·have ho:¬ o=[]:=fun h=>h0 (hn.1 h)
  rw [if_neg h0]
  refine kR1 ho q3Bx fun K1 u1=>?_
  refine kI u1 ?_
  clear u1 K1
  (refine sV q3Bx fun K z=>?_;refine⟨by (try simp only [List.length_cons,List.length_nil]);unfold lim;omega,?_⟩;(try refine ev ?_);apply z;clear z K)
  exact aR
theorem cls_digit {n:Nat} (h1:48≤n)(h2:n≤57):cls (n:Int)=2:=by
 unfold cls
 rw [if_neg (by unfold letter;omega),if_pos (by omega)]
theorem dec_all (n:Nat):∀ c,c∈Lib.decDigits n→48≤c.toNat∧c.toNat≤57:=by
 have hb:∀ k,k < 10→48≤(UInt8.ofNat (48+k)).toNat∧(UInt8.ofNat (48+k)).toNat≤57:=fun k h=>by
  have:k=0∨k=1∨k=2∨k=3∨k=4∨k=5∨k=6∨k=7∨k=8∨k=9:=by omega
  rcases this with rfl | rfl | rfl | rfl | rfl | rfl | rfl | rfl | rfl | rfl <;> decide
 induction n using Nat.strongRecOn with
 | _ n ih =>
 intro c hc
 by_cases h:n < 10
 ·rw [dec_small h] at hc
  rw [List.mem_singleton.1 hc]
  exact hb n h
 ·rw [dec_big h] at hc
  rcases List.mem_append.1 hc with hc | hc
  ·exact ih (n / 10) (by omega) c hc
  ·rw [List.mem_singleton.1 hc]
   exact hb _ (Nat.mod_lt _ (by omega))
theorem decFrom_le:∀ (l:List UInt8)(acc n:Nat),Lib.decFrom acc l=some n→n < (acc+1)*10 ^ l.length
 | [],acc,n,h=>by simp only [Lib.decFrom,Option.some.injEq] at h;subst h;simp
 | c::l,acc,n,h=>by
  simp only [Lib.decFrom] at h
  cases hc:Lib.digitVal c with
  | none=>rw [hc] at h;cases h
  | some d =>
   rw [hc] at h
   have h1:=decFrom_le l _ n h
   have hd:d≤9:=by
    unfold Lib.digitVal at hc
    split at hc
    ·cases hc;omega
    ·cases hc
   rw [List.length_cons,Nat.pow_succ]
   refine Nat.lt_of_lt_of_le h1 ?_
   calc (acc*10+d+1)*10 ^ l.length≤((acc+1)*10)*10 ^ l.length:=Nat.mul_le_mul_right _ (by omega)
    _=(acc+1)*(10 ^ l.length*10):=by rw [Nat.mul_assoc,Nat.mul_comm 10 (10 ^ l.length)]
abbrev q4Bx:List Nat:=[0,2,3,4,17,21,28,44]
theorem ok_RIndexLoc (i:Nat)(h:i≤100000):CallOK prog 118 [strV (localS i)] (intV i):=by
 have hall:=dec_all i
 have hdl:=dec_len i h
 have hdf:=decFrom_digits i
 have hlo:=ok_RLocal i (by unfold sm;omega)
 have e0:localS i=36::Lib.decDigits i:=by unfold localS;rw [itoa_nat]
 have hd1:1≤(Lib.decDigits i).length:=by
  obtain⟨c,r,h1,_⟩:=dec_head i
  rw [h1];simp
 have hgt:¬ (i:Int) > 2147483647:=by omega
 have g0:(localS i)[0]? = some 36:=by rw [e0];rfl
 have gs:∀ j c,(Lib.decDigits i)[j]? = some c→(localS i)[j+1]? = some c:=fun j c hc=>by rw [e0,List.getElem?_cons_succ];exact hc
 have hsl:(localS i).length=(Lib.decDigits i).length+1:=by rw [e0];rfl
 generalize localS i=s at *
 clear e0
 generalize Lib.decDigits i=ds at *
 have h2':¬ (s.length:Int) < 2:=by omega
 have h3':¬ (s.length:Int) > 11:=by omega
 have h36:(((36:UInt8).toNat:Nat):Int)=36:=rfl
 refine cB func118 ?_
 refine sR q4Bx ?_
 refine sR q4Bx ?_
 refine sK fun K1 u1=>?_
 (refine sQ q4Bx fun K z=>?_;simp -implicitDefEqProofs only [EV,forall_const,implies_true,Nat.reduceAdd,Nat.reduceEqDiff,Nat.reduceBEq,Nat.reduceLeDiff,Nat.reduceSub,Nat.reduceMul,Int.reduceEq,Int.reduceLT,Int.reduceLE,Int.reduceSub,Int.reduceAdd,Int.reduceToNat,reduceCtorEq,Int.reduceNeg,TF3,TF4,TF5,TF9,h2',h3',h36,ne_eq,not_true_eq_false];refine⟨36,g0,?_⟩;(try simp -implicitDefEqProofs only [EV,forall_const,implies_true,Nat.reduceAdd,Nat.reduceEqDiff,Nat.reduceBEq,Nat.reduceLeDiff,Nat.reduceSub,Nat.reduceMul,Int.reduceEq,Int.reduceLT,Int.reduceLE,Int.reduceSub,Int.reduceAdd,Int.reduceToNat,reduceCtorEq,Int.reduceNeg,TF3,TF4,TF5,TF9,h2',h3',h36,ne_eq,not_true_eq_false]);apply z;clear z K)
 refine kI u1 ?_
 clear u1 K1
 refine kR q4Bx fun K1 u1=>?_
 refine AWp.block (AWp.forIdx ds (X:=Nat) (fun j n=>[(0,strV s),(3,intV n),(4,intV ((j+1:Nat):Int))]) (fun _ _=>[])
  (fun j n=>Lib.decFrom 0 (ds.take j)=some n) 0 rfl sS (by simp [ble,bget,exC,tyC,foC,paC,siC,deC,prC]) ?_ ?_)
 rotate_left
 ·intro j n c hc hmem dp tk hlt hI
  obtain⟨c1,c2⟩:=hall c hmem
  have hcl:=ok_Class c.toNat
  rw [cls_digit c1 c2] at hcl
  have hcs:=gs j c hc
  have hlt':((j+1:Nat):Int) < (s.length:Int):=by omega
  have hjl:=(List.getElem?_eq_some_iff.1 hc).1
  have hn1:=decFrom_le _ _ _ hI
  have hpw:10 ^ (ds.take j).length≤10 ^ 5:=Nat.pow_le_pow_right (by omega) (by rw [List.length_take];omega)
  have hdv:Lib.digitVal c=some (c.toNat - 48):=by unfold Lib.digitVal;rw [if_pos ⟨c1,c2⟩]
  have hI2:=decFrom_snoc c _ hdv _ _ _ hI
  rw [← tk] at hI2
  refine kR1 hlt' q4Bx fun K2 u2=>?_
  refine gI u2 ?_
  clear u2 K2
  refine sK fun K2 u2=>?_
  refine AWp.block ?_
  refine sK fun K3 u3=>?_
  (refine sQ q4Bx fun K z=>?_;simp -implicitDefEqProofs only [EV,forall_const,implies_true,Nat.reduceAdd,Nat.reduceEqDiff,Nat.reduceBEq,Nat.reduceLeDiff,Nat.reduceSub,Nat.reduceMul,Int.reduceEq,Int.reduceLT,Int.reduceLE,Int.reduceSub,Int.reduceAdd,Int.reduceToNat,reduceCtorEq,Int.reduceNeg,TF3,TF4,TF5,TF9,ne_eq,not_true_eq_false];refine⟨by omega,_,hcs,?_⟩;(try simp -implicitDefEqProofs only [EV,forall_const,implies_true,Nat.reduceAdd,Nat.reduceEqDiff,Nat.reduceBEq,Nat.reduceLeDiff,Nat.reduceSub,Nat.reduceMul,Int.reduceEq,Int.reduceLT,Int.reduceLE,Int.reduceSub,Int.reduceAdd,Int.reduceToNat,reduceCtorEq,Int.reduceNeg,TF3,TF4,TF5,TF9,ne_eq,not_true_eq_false]);refine⟨_,.inl ⟨_,rfl,hcl,rfl⟩,?_⟩;(try simp -implicitDefEqProofs only [EV,forall_const,implies_true,Nat.reduceAdd,Nat.reduceEqDiff,Nat.reduceBEq,Nat.reduceLeDiff,Nat.reduceSub,Nat.reduceMul,Int.reduceEq,Int.reduceLT,Int.reduceLE,Int.reduceSub,Int.reduceAdd,Int.reduceToNat,reduceCtorEq,Int.reduceNeg,TF3,TF4,TF5,TF9,ne_eq,not_true_eq_false]);apply z;clear z K)
  refine kI u3 ?_
  clear u3 K3
  have hw:IntKind.i64.wrap (IntKind.u8.wrap ((c.toNat:Int) - 48))=((c.toNat - 48:Nat):Int):=by
   have:c.toNat=48∨c.toNat=49∨c.toNat=50∨c.toNat=51∨c.toNat=52∨c.toNat=53∨c.toNat=54∨c.toNat=55∨c.toNat=56∨c.toNat=57:=by omega
   rcases this with h | h | h | h | h | h | h | h | h | h <;> (rw [h];decide)
  have hnb:n < 100000:=by omega
  have hv:10*(n:Int)+((c.toNat - 48:Nat):Int)=((n*10+(c.toNat - 48):Nat):Int):=by omega
  have h4:((j+1:Nat):Int)+1=((j+1+1:Nat):Int):=by omega
  (refine lV q4Bx fun K z=>?_;refine⟨by simp only [InR];omega,by omega,_,hcs,?_⟩;rw [hw];refine⟨by simp only [InR];omega,?_⟩;(try refine ev ?_);apply z;clear z K;try simp only [thenA,blockA,if_true])
  refine u2 _ _ ?_
  clear u2 K2
  (refine lV q4Bx fun K z=>?_;refine cl ?_;apply z;clear z K;try simp only [thenA,blockA,if_true])
  rw [hv,h4]
  exact⟨_,hI2,by simp only [sle,vle,sget];simp,(by simp [ble,bget,exC,tyC,foC,paC,siC,deC,prC])⟩
 intro n hI
 rw [List.take_length,hdf] at hI
 obtain rfl:=Option.some.inj hI
 have hx:¬ ((ds.length+1:Nat):Int) < (s.length:Int):=by omega
 refine kR1 hx q4Bx fun K2 u2=>?_
 refine AWp.stopK rfl ?_
 simp only [thenA,blockA,if_true]
 refine u1 _ _ ?_
 clear u2 K2 u1 K1
 refine sK fun K1 u1=>?_
 (refine sQ q4Bx fun K z=>?_;simp -implicitDefEqProofs only [EV,forall_const,implies_true,Nat.reduceAdd,Nat.reduceEqDiff,Nat.reduceBEq,Nat.reduceLeDiff,Nat.reduceSub,Nat.reduceMul,Int.reduceEq,Int.reduceLT,Int.reduceLE,Int.reduceSub,Int.reduceAdd,Int.reduceToNat,reduceCtorEq,Int.reduceNeg,TF3,TF4,TF5,TF9,hgt,ne_eq,not_true_eq_false];refine⟨_,.inl ⟨_,rfl,hlo,rfl⟩,?_⟩;(try simp -implicitDefEqProofs only [EV,forall_const,implies_true,Nat.reduceAdd,Nat.reduceEqDiff,Nat.reduceBEq,Nat.reduceLeDiff,Nat.reduceSub,Nat.reduceMul,Int.reduceEq,Int.reduceLT,Int.reduceLE,Int.reduceSub,Int.reduceAdd,Int.reduceToNat,reduceCtorEq,Int.reduceNeg,TF3,TF4,TF5,TF9,hgt,ne_eq,not_true_eq_false]);apply z;clear z K)
 refine kI u1 ?_
 clear u1 K1
 refine sR q4Bx ?_
 exact aR
set_option maxHeartbeats 1000000
set_option maxHeartbeats 2000000
abbrev q1Cx:List Nat:=[0,1,2,3,14]
theorem ok_RType20:∀ t:Ty,t.Mg→t.tlen≤10000000000000→CallOK prog 59 [tyV t] (strV t.mg):=by
 intro t
 induction t using Ty.induct with
 | h t ih =>
 intro hm hlen
 have hmg:=Ty.mg_len t
 rw [Ty.mg_eq] at hmg ⊢
 obtain⟨n,a,p⟩:=t
 cases hm with
 | loc i _ hi =>
  have hix:=ok_RIndexLoc i hi
  have hit:=ok_Decimal i (by unfold sm;omega)
  have e:(if (Ty.mk (localS i) [] p).name.head? = some 36∧(Ty.mk (localS i) [] p).args=[] then [95,86]++(Ty.mk (localS i) [] p).name.drop 1 else escS (Ty.mk (localS i) [] p).name++mgA (Ty.mk (localS i) [] p).args)=[95,86]++Lib.decDigits i:=by
   rw [if_pos ⟨rfl,rfl⟩,← itoa_nat];rfl
  rw [e] at hmg ⊢
  clear e
  have hil:=dec_len i hi
  generalize Lib.decDigits i=s at *
  have h00:(((tyR []).length:Nat):Int)=0:=rfl
  have hge:(i:Int) ≥ 0:=by omega
  refine cB func59 ?_
  refine sR q1Cx ?_
  refine sC hix q1Cx ?_
  refine sK fun K1 u1=>?_
  (refine sQ q1Cx fun K z=>?_;simp -implicitDefEqProofs only [EV,forall_const,implies_true,Nat.reduceAdd,Nat.reduceEqDiff,Nat.reduceBEq,Nat.reduceLeDiff,Nat.reduceSub,Nat.reduceMul,Int.reduceEq,Int.reduceLT,Int.reduceLE,Int.reduceSub,Int.reduceAdd,Int.reduceToNat,reduceCtorEq,Int.reduceNeg,TF3,TF4,TF9,TF23,TF25,h00,hge,decide_true];apply z;clear z K)
  refine tI ?_
  (refine sV q1Cx fun K z=>?_;refine cc hit ?_;refine⟨by (try simp only [List.length_append,List.length_cons,List.length_nil]);unfold lim;omega,?_⟩;(try refine ev ?_);apply z;clear z K)
  exact aR
 | nam _ _ _ h1 h2 h3 h4 =>
  have hix:=ok_RIndexNam n h1
  have hes:=ok_REsc n h2
  have htl:(Ty.mk n a p).tlen=n.length+4+Ty.tlenL a:=rfl
  have hli:=ok_RList20 a h3 (by omega) fun u hu=>ih u hu (h4 u hu) (by have:=tlenL_mem hu;omega)
  have e:(if (Ty.mk n a p).name.head? = some 36∧(Ty.mk n a p).args=[] then [95,86]++(Ty.mk n a p).name.drop 1 else escS (Ty.mk n a p).name++mgA (Ty.mk n a p).args)=escS n++mgA a:=by
   rw [if_neg (fun h=>isName_no36 h1 h.1)];rfl
  rw [e] at hmg ⊢
  clear e
  rw [List.length_append] at hmg
  generalize escS n=s1 at *
  generalize mgA a=s2 at *
  refine cB func59 ?_
  refine sR q1Cx ?_
  refine sC hix q1Cx ?_
  refine kR q1Cx fun K1 u1=>?_
  refine kI u1 ?_
  clear u1 K1
  (refine sG q1Cx [] 5 [] fun K z=>?_;refine ev ?_;refine cc hes ?_;refine cc hli ?_;refine⟨by (try simp only [List.length_append]);unfold lim;omega,?_⟩;(try refine ev ?_);apply z;clear z K)
  exact aR
theorem ok_RMethod20 (m:Str)(hm:m.length≤sm)(l:List Ty)(hl:l.length≤sm)(hg:∀ t,t∈l→t.Mg)(hlen:Ty.tlenL l≤10000000000000):CallOK prog 45 [strV m,.d (.slice (tyR l))] (strV (mgM m l)):=by
 have h1:=ok_REsc m hm
 have h2:=ok_RList20 l hl hlen fun u hu=>ok_RType20 u (hg u hu) (by have:=tlenL_mem hu;omega)
 have l1:=escS_len m
 have l2:=mgA_len l
 unfold mgM
 generalize escS m=s1 at *
 generalize mgA l=s2 at *
 refine cB func45 ?_
 refine sR [0,1,4] ?_
 (refine sV [0,1,4] fun K z=>?_;refine cc h1 ?_;refine cc h2 ?_;refine⟨by (try simp only [List.length_append]);unfold lim sm at *;omega,?_⟩;(try refine ev ?_);apply z;clear z K)
 exact aR
abbrev plT (t:Ty):Ty:=.mk t.mg [] 0
theorem ok_SPlain (t:Ty)(hm:t.Mg)(hlen:t.tlen≤10000000000000):CallOK prog 93 [tyV t] (tyV (plT t)):=by
 have h1:=ok_MPlain t hm hlen
 show CallOK prog 93 [tyV t] (tyV (.mk t.mg [] 0))
 generalize t.mg=s at *
 refine cB func93 ?_
 refine sR [0,1,2,3] ?_
 refine sC h1 [0,1,2,3] ?_
 refine sR [0,1,2,3] ?_
 refine sR [0,1,2,3] ?_
 exact aR
theorem ok_RPlain23 (t:Ty)(hm:t.Mg)(hlen:t.tlen≤10000000000000):CallOK prog 46 [tyV t] (tyV (plT t)):=by
 have h1:=ok_RType20 t hm hlen
 show CallOK prog 46 [tyV t] (tyV (.mk t.mg [] 0))
 generalize t.mg=s at *
 refine cB func46 ?_
 refine sR [0,1,2] ?_
 refine sC h1 [0,1,2] ?_
 exact aR
def dmF (l:List Formal):Str:=l.flatMap fun f=>f.bound.mg++[95,66]
def dmP (l:List Param):Str:=l.flatMap fun f=>f.type.mg++[95,80]
def dumS (s:Sig):Str:=escS s.name++[95,83]++dmF s.canon.formals++dmP s.canon.params++s.canon.result.mg++[95,69]
theorem dmF_take {l:List Formal} {j:Nat} {f:Formal} (h:l[j]? = some f):dmF (l.take (j+1))=dmF (l.take j)++f.bound.mg++[95,66]∧(dmF (l.take (j+1))).length≤(dmF l).length:=by
 have hj:=(List.getElem?_eq_some_iff.1 h).1
 have e:dmF (l.take (j+1))=dmF (l.take j)++f.bound.mg++[95,66]:=by rw [List.take_succ_eq_append_getElem hj,(List.getElem?_eq_some_iff.1 h).2];simp [dmF]
 refine⟨e,?_⟩
 have:dmF l=dmF (l.take (j+1))++dmF (l.drop (j+1)):=by unfold dmF;rw [← List.flatMap_append,List.take_append_drop]
 rw [this,List.length_append];omega
theorem dmP_take {l:List Param} {j:Nat} {f:Param} (h:l[j]? = some f):dmP (l.take (j+1))=dmP (l.take j)++f.type.mg++[95,80]∧(dmP (l.take (j+1))).length≤(dmP l).length:=by
 have hj:=(List.getElem?_eq_some_iff.1 h).1
 have e:dmP (l.take (j+1))=dmP (l.take j)++f.type.mg++[95,80]:=by rw [List.take_succ_eq_append_getElem hj,(List.getElem?_eq_some_iff.1 h).2];simp [dmP]
 refine⟨e,?_⟩
 have:dmP l=dmP (l.take (j+1))++dmP (l.drop (j+1)):=by unfold dmP;rw [← List.flatMap_append,List.take_append_drop]
 rw [this,List.length_append];omega
abbrev tLim:Nat:=10000000000000
structure DumOK (s:Sig):Prop where
 sm:s.Sm
 f:∀ f,f∈s.canon.formals→f.bound.Mg∧f.bound.tlen≤tLim
 p:∀ f,f∈s.canon.params→f.type.Mg∧f.type.tlen≤tLim
 r:s.canon.result.Mg∧s.canon.result.tlen≤tLim
 len:(dumS s).length≤100000000000000
abbrev q2Cx:List Nat:=[0,1,2,3,4,6,8,16,17,18,19,30,31,32,33]
theorem ok_MDummy (s:Sig)(h:DumOK s):CallOK prog 53 [siV s] (strV (dumS s)):=by
 have hca:=ok_BCanon s h.sm
 have hes:=ok_Esc s.name h.sm.name
 have hr:=ok_MType s.canon.result h.r.1 h.r.2
 have hf:=h.f
 have hp:=h.p
 have hlen:=h.len
 have hfl:s.canon.formals.length≤sm:=by rw [show s.canon.formals.length=s.formals.length from canF_len s _];exact h.sm.formals.1
 have hpl:s.canon.params.length≤sm:=by rw [show s.canon.params.length=s.params.length from canP_len s _];exact h.sm.params.1
 unfold dumS at *
 generalize s.canon=q at *
 generalize escS s.name=n at *
 generalize q.result.mg=rr at *
 simp only [List.length_append,List.length_cons,List.length_nil] at hlen
 refine cB func53 ?_
 refine sR q2Cx ?_
 refine sC hca q2Cx ?_
 (refine sV q2Cx fun K z=>?_;refine cc hes ?_;refine⟨by (try simp only [List.length_append,List.length_cons,List.length_nil]);unfold lim;omega,?_⟩;(try refine ev ?_);apply z;clear z K)
 refine kR q2Cx fun K1 u1=>?_
 refine AWp.block (AWp.forIdx q.formals (X:=Unit) (fun j _=>[(1,.box 1 0),(3,.box 3 0),(4,strV (n++[95,83]++dmF (q.formals.take j))),(16,.d (.slice (foR q.formals))),(17,intV q.formals.length),(18,intV j)]) (fun _ _=>[(1,.cells (siL s)),(3,.cells (siL q))])
  (fun _ _=>True) () trivial (by simp [sle,vle,sget,dmF]) sB ?_ ?_)
 rotate_left
 ·intro j _ u hu hmem dp tk hlt _
  obtain⟨e1,e2⟩:=dmF_take hu
  have hc:=ok_MType u.bound (hf u hmem).1 (hf u hmem).2
  rw [e1] at e2
  rw [e1,← List.append_assoc,← List.append_assoc]
  generalize dmF (q.formals.take j)=o at *
  generalize u.bound.mg=m at *
  simp only [List.length_append,List.length_cons,List.length_nil] at e2
  refine sR1 hlt q2Cx ?_
  refine AWp.goOn rfl ?_
  refine sK fun K2 u2=>?_
  refine AWp.block ?_
  (refine sV q2Cx fun K z=>?_;refine ci (foR_get hu) ?_;apply z;clear z K)
  (refine lV q2Cx fun K z=>?_;refine cc hc ?_;refine⟨by (try simp only [List.length_append,List.length_cons,List.length_nil]);unfold lim;omega,?_⟩;(try refine ev ?_);refine⟨by (try simp only [List.length_append,List.length_cons,List.length_nil]);unfold lim;omega,?_⟩;(try refine ev ?_);apply z;clear z K;try simp only [thenA,blockA,if_true])
  refine u2 _ _ ?_
  clear u2 K2
  (refine lV q2Cx fun K z=>?_;refine cl ?_;apply z;clear z K;try simp only [thenA,blockA,if_true])
  exact⟨(),trivial,by simp [sle,vle,sget],by simp [ble,bget]⟩
 intro _ _
 rw [List.take_length]
 refine sR1 Int.lt_irrefl q2Cx ?_
 refine AWp.stop rfl ?_
 simp only [thenA,blockA,if_true]
 refine u1 _ _ ?_
 clear u1 K1
 generalize dmF q.formals=o1 at *
 refine kR q2Cx fun K1 u1=>?_
 refine AWp.block (AWp.forIdx q.params (X:=Unit) (fun j _=>[(1,.box 1 0),(3,.box 3 0),(4,strV (n++[95,83]++o1++dmP (q.params.take j))),(30,.d (.slice (paR q.params))),(31,intV q.params.length),(32,intV j)]) (fun _ _=>[(1,.cells (siL s)),(3,.cells (siL q))])
  (fun _ _=>True) () trivial (by simp [sle,vle,sget,dmP]) sB ?_ ?_)
 rotate_left
 ·intro j _ u hu hmem dp tk hlt _
  obtain⟨e1,e2⟩:=dmP_take hu
  have hc:=ok_MType u.type (hp u hmem).1 (hp u hmem).2
  rw [e1] at e2
  rw [e1,← List.append_assoc,← List.append_assoc]
  generalize dmP (q.params.take j)=o at *
  generalize u.type.mg=m at *
  simp only [List.length_append,List.length_cons,List.length_nil] at e2
  refine sR1 hlt q2Cx ?_
  refine AWp.goOn rfl ?_
  refine sK fun K2 u2=>?_
  refine AWp.block ?_
  (refine sV q2Cx fun K z=>?_;refine ci (paR_get hu) ?_;apply z;clear z K)
  (refine lV q2Cx fun K z=>?_;refine cc hc ?_;refine⟨by (try simp only [List.length_append,List.length_cons,List.length_nil]);unfold lim;omega,?_⟩;(try refine ev ?_);refine⟨by (try simp only [List.length_append,List.length_cons,List.length_nil]);unfold lim;omega,?_⟩;(try refine ev ?_);apply z;clear z K;try simp only [thenA,blockA,if_true])
  refine u2 _ _ ?_
  clear u2 K2
  (refine lV q2Cx fun K z=>?_;refine cl ?_;apply z;clear z K;try simp only [thenA,blockA,if_true])
  exact⟨(),trivial,by simp [sle,vle,sget],by simp [ble,bget]⟩
 intro _ _
 rw [List.take_length]
 refine sR1 Int.lt_irrefl q2Cx ?_
 refine AWp.stop rfl ?_
 simp only [thenA,blockA,if_true]
 refine u1 _ _ ?_
 clear u1 K1
 generalize dmP q.params=o2 at *
 (refine sV q2Cx fun K z=>?_;refine cc hr ?_;refine⟨by (try simp only [List.length_append,List.length_cons,List.length_nil]);unfold lim;omega,?_⟩;(try refine ev ?_);refine⟨by (try simp only [List.length_append,List.length_cons,List.length_nil]);unfold lim;omega,?_⟩;(try refine ev ?_);apply z;clear z K)
 exact aR
set_option maxHeartbeats 1000000
set_option maxHeartbeats 2000000
abbrev q1Dx:List Nat:=[0,1,2,3,4,5,6,17,34]
theorem ok_RDummy20 (s:Sig)(h:DumOK s):CallOK prog 55 [siV s] (strV (dumS s)):=by
 have hca:=ok_RCanon s h.sm
 have hes:=ok_REsc s.name h.sm.name
 have hr:=ok_RType20 s.canon.result h.r.1 h.r.2
 have hf:=h.f
 have hp:=h.p
 have hlen:=h.len
 have hfl:s.canon.formals.length≤sm:=by rw [show s.canon.formals.length=s.formals.length from canF_len s _];exact h.sm.formals.1
 have hpl:s.canon.params.length≤sm:=by rw [show s.canon.params.length=s.params.length from canP_len s _];exact h.sm.params.1
 unfold dumS at *
 generalize s.canon=q at *
 generalize escS s.name=n at *
 generalize q.result.mg=rr at *
 simp only [List.length_append,List.length_cons,List.length_nil] at hlen
 refine cB func55 ?_
 refine sR q1Dx ?_
 refine sC hca q1Dx ?_
 (refine sV q1Dx fun K z=>?_;refine cc hes ?_;refine⟨by (try simp only [List.length_append,List.length_cons,List.length_nil]);unfold lim;omega,?_⟩;(try refine ev ?_);apply z;clear z K)
 refine kR q1Dx fun K1 u1=>?_
 refine AWp.block (AWp.forIdx q.formals (X:=Unit) (fun j _=>[(1,.box 1 0),(3,.box 3 0),(4,strV (n++[95,83]++dmF (q.formals.take j))),(5,intV j)]) (fun _ _=>[(1,.cells (siL s)),(3,.cells (siL q))])
  (fun _ _=>True) () trivial (by simp [sle,vle,sget,dmF]) sB ?_ ?_)
 rotate_left
 ·intro j _ u hu hmem dp tk hlt _
  obtain⟨e1,e2⟩:=dmF_take hu
  have hc:=ok_RType20 u.bound (hf u hmem).1 (hf u hmem).2
  rw [e1] at e2
  rw [e1,← List.append_assoc,← List.append_assoc]
  generalize dmF (q.formals.take j)=o at *
  generalize u.bound.mg=m at *
  simp only [List.length_append,List.length_cons,List.length_nil] at e2
  refine kR1 hlt q1Dx fun K2 u2=>?_
  refine gI u2 ?_
  clear u2 K2
  refine sK fun K2 u2=>?_
  refine AWp.block ?_
  (refine lV q1Dx fun K z=>?_;refine ci (foR_get hu) ?_;refine cc hc ?_;refine⟨by (try simp only [List.length_append,List.length_cons,List.length_nil]);unfold lim;omega,?_⟩;(try refine ev ?_);refine⟨by (try simp only [List.length_append,List.length_cons,List.length_nil]);unfold lim;omega,?_⟩;(try refine ev ?_);apply z;clear z K;try simp only [thenA,blockA,if_true])
  refine u2 _ _ ?_
  clear u2 K2
  (refine lV q1Dx fun K z=>?_;refine cl ?_;apply z;clear z K;try simp only [thenA,blockA,if_true])
  exact⟨(),trivial,by simp [sle,vle,sget],by simp [ble,bget]⟩
 intro _ _
 rw [List.take_length]
 refine kR1 Int.lt_irrefl q1Dx fun K2 u2=>?_
 refine AWp.stopK rfl ?_
 simp only [thenA,blockA,if_true]
 refine u1 _ _ ?_
 clear u2 K2 u1 K1
 generalize dmF q.formals=o1 at *
 refine kR q1Dx fun K1 u1=>?_
 refine AWp.block (AWp.forIdx q.params (X:=Unit) (fun j _=>[(1,.box 1 0),(3,.box 3 0),(4,strV (n++[95,83]++o1++dmP (q.params.take j))),(6,intV j)]) (fun _ _=>[(1,.cells (siL s)),(3,.cells (siL q))])
  (fun _ _=>True) () trivial (by simp [sle,vle,sget,dmP]) sB ?_ ?_)
 rotate_left
 ·intro j _ u hu hmem dp tk hlt _
  obtain⟨e1,e2⟩:=dmP_take hu
  have hc:=ok_RType20 u.type (hp u hmem).1 (hp u hmem).2
  rw [e1] at e2
  rw [e1,← List.append_assoc,← List.append_assoc]
  generalize dmP (q.params.take j)=o at *
  generalize u.type.mg=m at *
  simp only [List.length_append,List.length_cons,List.length_nil] at e2
  refine kR1 hlt q1Dx fun K2 u2=>?_
  refine gI u2 ?_
  clear u2 K2
  refine sK fun K2 u2=>?_
  refine AWp.block ?_
  (refine lV q1Dx fun K z=>?_;refine ci (paR_get hu) ?_;refine cc hc ?_;refine⟨by (try simp only [List.length_append,List.length_cons,List.length_nil]);unfold lim;omega,?_⟩;(try refine ev ?_);refine⟨by (try simp only [List.length_append,List.length_cons,List.length_nil]);unfold lim;omega,?_⟩;(try refine ev ?_);apply z;clear z K;try simp only [thenA,blockA,if_true])
  refine u2 _ _ ?_
  clear u2 K2
  (refine lV q1Dx fun K z=>?_;refine cl ?_;apply z;clear z K;try simp only [thenA,blockA,if_true])
  exact⟨(),trivial,by simp [sle,vle,sget],by simp [ble,bget]⟩
 intro _ _
 rw [List.take_length]
 refine kR1 Int.lt_irrefl q1Dx fun K2 u2=>?_
 refine AWp.stopK rfl ?_
 simp only [thenA,blockA,if_true]
 refine u1 _ _ ?_
 clear u2 K2 u1 K1
 generalize dmP q.params=o2 at *
 (refine sV q1Dx fun K z=>?_;refine cc hr ?_;refine⟨by (try simp only [List.length_append,List.length_cons,List.length_nil]);unfold lim;omega,?_⟩;(try refine ev ?_);refine⟨by (try simp only [List.length_append,List.length_cons,List.length_nil]);unfold lim;omega,?_⟩;(try refine ev ?_);apply z;clear z K)
 exact aR
abbrev topN:Str:=[84,111,112,95,84]
abbrev topT:Ty:=.mk topN [] 0
theorem ok_Top:CallOK prog 34 [] (strV topN):=by
 refine cB func34 ?_
 refine sR [0] ?_
 refine sR [0] ?_
 exact aR
theorem ok_STop:CallOK prog 54 [] (tyV topT):=by
 have h:=ok_Top
 refine cB func54 ?_
 refine sR [0] ?_
 refine sC h [0] ?_
 exact aR
def dumG (s:Sig):Sig:=⟨dumS s,[],[],topT,0⟩
theorem ok_SDummy (s:Sig)(h:DumOK s):CallOK prog 19 [siV s] (siV (dumG s)):=by
 have h1:=ok_MDummy s h
 have h2:=ok_STop
 show CallOK prog 19 [siV s] (siV ⟨dumS s,[],[],topT,0⟩)
 generalize dumS s=n at *
 refine cB func19 ?_
 refine sR [0,1,2] ?_
 (refine sV [0,1,2] fun K z=>?_;refine cc h1 ?_;refine cc h2 ?_;apply z;clear z K)
 exact aR
theorem ok_RDummy23 (s:Sig)(h:DumOK s):CallOK prog 20 [siV s] (siV (dumG s)):=by
 have h1:=ok_RDummy20 s h
 show CallOK prog 20 [siV s] (siV ⟨dumS s,[],[],topT,0⟩)
 generalize dumS s=n at *
 refine cB func20 ?_
 refine sR [0,1,2] ?_
 refine sC h1 [0,1,2] ?_
 exact aR
end Go.Abs
