/- castingslaw25.awake; the walk of StepSplits -/
import Derived.Test.YtenheogknlmohaaGreatDoorYS44
namespace Go.Abs
set_option linter.unusedSimpArgs false
set_option linter.unusedVariables false
open Go Go.Proofs
set_option maxRecDepth 100000
set_option maxHeartbeats 1000000
def r0:Ty:=.mk [] [] 0
def rT:Ty:=.mk [84] [] 0
def rB:Ty:=.mk [66] [] 0
def rt:Ex:=.mk 3 [] rT [] [] 0
def rb:Ex:=.mk 3 [] rB [] [rt] 0
def rs:Ex:=.mk 4 [118] r0 [] [rb] 0
def ru:Ex:=.mk 1 [120] r0 [] [] 0
def ra:Ex:=.mk 5 [] rB [] [rt] 0
def rEx:Ex:=.mk 0 [] r0 [] [] 0
def rSig:Sig:=⟨[],[],[],r0,0⟩
def rP:Prog:=⟨[⟨1,[84],[],[],[],[],[],rSig,rEx,0⟩,⟨1,[66],[],[⟨[118],rT,0⟩],[],[],[],rSig,rEx,0⟩],rEx⟩
theorem rP_sm:rP.Sm:=(rP.count_sm (by decide +kernel)).1
theorem rx_sm (e:Ex)(h:e.count 0≤2000):e.Sm:=Ex.count_sm e 0 (by decide) h
theorem rt_sm:rt.Sm:=rx_sm _ (by decide +kernel)
theorem rs_sm:rs.Sm:=rx_sm _ (by decide +kernel)
theorem ru_sm:ru.Sm:=rx_sm _ (by decide +kernel)
theorem ra_sm:ra.Sm:=rx_sm _ (by decide +kernel)
theorem w1:stepE rP rs=(rt,1):=by
 have hL:stepL rP rs.kids=none:=by rfl
 rw [stepE_eq,hL]
 simp only
 unfold redexE
 rw [if_neg (by decide),show rs.kids[0]? = some rb from rfl]
 simp only
 rw [if_neg (by decide),if_pos (by decide)]
 unfold selE
 rw [if_pos (by decide +kernel)]
 rfl
theorem w2:stepE rP rt=(rt,2):=by
 rw [stepE_eq,show stepL rP rt.kids=none by rfl]
 simp only
 unfold redexE
 rw [if_pos (by decide)]
theorem w3:stepE rP ru=(ru,4):=by
 rw [stepE_eq,show stepL rP ru.kids=none by rfl]
 simp only
 unfold redexE
 rw [if_neg (by decide),show ru.kids[0]? = none from rfl]
theorem w4:stepE rP ra=(ra,3):=by
 rw [stepE_eq,show stepL rP ra.kids=none by rfl]
 simp only
 unfold redexE
 rw [if_neg (by decide),show ra.kids[0]? = some rt from rfl]
 simp only
 rw [if_neg (by decide),if_neg (by decide),if_pos (by decide)]
 unfold asrtE implB
 rw [show isIface rP [] ra.type=false by decide +kernel]
 simp only [Bool.false_eq_true,if_false]
 rw [if_neg (by decide +kernel)]
theorem w5:stepsE rP 5 rs=(rt,1,2):=by
 rw [stepsE,w1]
 simp only [if_true]
 rw [stepsE_halt (by rw [w2];decide),w2]
 rfl
theorem w6:rdxE rs=(rs,true):=by rfl
theorem w7:StepsSm rP 5 rs:=by
 refine⟨rs_sm,fun _=>?_⟩
 rw [w1]
 refine⟨rt_sm,fun h=>?_⟩
 rw [w2] at h
 exact absurd h (by decide)
theorem ok_awake25:CallOK Tryz.prog 12 [] (boolV true):=by
 have c1:=ok_Step rP rP_sm rs rs_sm (by rw [w1];exact rt_sm)
 have c2:=ok_Step rP rP_sm rt rt_sm (by rw [w2];exact rt_sm)
 have c3:=ok_Step rP rP_sm ru ru_sm (by rw [w3];exact ru_sm)
 have c4:=ok_Step rP rP_sm ra ra_sm (by rw [w4];exact ra_sm)
 have c5:=ok_Steps rP rP_sm 5 (by decide) rs w7
 have c6:=ok_SRedex rs rs_sm
 have c7:=ok_RefSame rt rt_sm rt
 have c8:=ok_RefSame rs rs_sm rs
 rw [w1] at c1;rw [w2] at c2;rw [w3] at c3;rw [w4] at c4;rw [w5] at c5;rw [w6] at c6;rw [sameE_refl] at c7 c8
 (refine CallOK.of_body Tryz.func12 rfl (by decide) (by rw [Tryz.ntmps12];simp) ?_;rw [Tryz.ntmps12])
 (refine AWp.seqR [0,1,2,3,4,5,6,8,10,12,13,14,15,16,17] [] (by decide +kernel) fun K hK=>?_;simp -implicitDefEqProofs only [EV,reduceCtorEq,];refine hK _ _ ?_;clear hK K)
 (refine AWp.seqR [0,1,2,3,4,5,6,8,10,12,13,14,15,16,17] [] (by decide +kernel) fun K hK=>?_;simp -implicitDefEqProofs only [EV,Nat.reduceAdd,Nat.reduceEqDiff,Nat.reduceLeDiff,reduceCtorEq,TF25,TF28,];refine hK _ _ ?_;clear hK K)
 (refine AWp.seqR [0,1,2,3,4,5,6,8,10,12,13,14,15,16,17] [] (by decide +kernel) fun K hK=>?_;simp -implicitDefEqProofs only [EV,Nat.reduceAdd,Nat.reduceEqDiff,Nat.reduceBEq,Nat.reduceLeDiff,Nat.reduceMul,reduceCtorEq,TF25,TF26,TF28,];refine hK _ _ ?_;clear hK K)
 (refine AWp.seqR [0,1,2,3,4,5,6,8,10,12,13,14,15,16,17] [] (by decide +kernel) fun K hK=>?_;simp -implicitDefEqProofs only [EV,Nat.reduceAdd,Nat.reduceEqDiff,Nat.reduceBEq,Nat.reduceLeDiff,Nat.reduceMul,reduceCtorEq,TF26,TF28,];refine hK _ _ ?_;clear hK K)
 (refine AWp.seqR [0,1,2,3,4,5,6,8,10,12,13,14,15,16,17] [] (by decide +kernel) fun K hK=>?_;simp -implicitDefEqProofs only [EV,Nat.reduceAdd,Nat.reduceEqDiff,Nat.reduceBEq,Nat.reduceLeDiff,Nat.reduceMul,reduceCtorEq,TF22,TF25,TF28,TF30,TF47,TF80,TF91];refine hK _ _ ?_;clear hK K)
 (refine AWp.seqR [0,1,2,3,4,5,6,8,10,12,13,14,15,16,17] [] (by decide +kernel) fun K hK=>?_;simp -implicitDefEqProofs only [EV,Nat.reduceAdd,Nat.reduceEqDiff,reduceCtorEq,TF28,TF30,];refine⟨_,.inl ⟨_,rfl,c1,rfl⟩,?_⟩;(try simp -implicitDefEqProofs only [EV,Nat.reduceAdd,Nat.reduceEqDiff,Nat.reduceBEq,Nat.reduceLeDiff,reduceCtorEq,TF28,]);refine hK _ _ ?_;clear hK K)
 (refine AWp.seqR [0,1,2,3,4,5,6,8,10,12,13,14,15,16,17] [] (by decide +kernel) fun K hK=>?_;simp -implicitDefEqProofs only [EV,Nat.reduceAdd,Nat.reduceEqDiff,reduceCtorEq,TF28,TF30,];refine⟨_,.inl ⟨_,rfl,c2,rfl⟩,?_⟩;(try simp -implicitDefEqProofs only [EV,Nat.reduceAdd,Nat.reduceEqDiff,Nat.reduceBEq,Nat.reduceLeDiff,reduceCtorEq,TF28,]);refine hK _ _ ?_;clear hK K)
 (refine AWp.seqR [0,1,2,3,4,5,6,8,10,12,13,14,15,16,17] [] (by decide +kernel) fun K hK=>?_;simp -implicitDefEqProofs only [EV,Nat.reduceAdd,Nat.reduceEqDiff,Nat.reduceLeDiff,reduceCtorEq,TF28,TF30,];refine⟨_,.inl ⟨_,rfl,c3,rfl⟩,?_⟩;(try simp -implicitDefEqProofs only [EV,Nat.reduceAdd,Nat.reduceEqDiff,Nat.reduceBEq,Nat.reduceLeDiff,reduceCtorEq,TF28,]);refine hK _ _ ?_;clear hK K)
 (refine AWp.seqR [0,1,2,3,4,5,6,8,10,12,13,14,15,16,17] [] (by decide +kernel) fun K hK=>?_;simp -implicitDefEqProofs only [EV,Nat.reduceAdd,Nat.reduceEqDiff,Nat.reduceLeDiff,Nat.reduceMul,reduceCtorEq,TF25,TF26,TF28,TF30,];refine⟨_,.inl ⟨_,rfl,c4,rfl⟩,?_⟩;(try simp -implicitDefEqProofs only [EV,Nat.reduceAdd,Nat.reduceEqDiff,Nat.reduceBEq,Nat.reduceLeDiff,reduceCtorEq,TF28,]);refine hK _ _ ?_;clear hK K)
 (refine AWp.seqR [0,1,2,3,4,5,6,8,10,12,13,14,15,16,17] [] (by decide +kernel) fun K hK=>?_;simp -implicitDefEqProofs only [EV,Nat.reduceAdd,Nat.reduceEqDiff,reduceCtorEq,TF28,TF30,];refine⟨_,.inl ⟨_,rfl,c5,rfl⟩,?_⟩;(try simp -implicitDefEqProofs only [EV,Nat.reduceAdd,Nat.reduceEqDiff,Nat.reduceBEq,Nat.reduceLeDiff,reduceCtorEq,TF28,]);refine hK _ _ ?_;clear hK K)
 (refine AWp.seqR [0,1,2,3,4,5,6,8,10,12,13,14,15,16,17] [] (by decide +kernel) fun K hK=>?_;simp -implicitDefEqProofs only [EV,Nat.reduceAdd,Nat.reduceEqDiff,reduceCtorEq,TF28,];refine⟨_,.inl ⟨_,rfl,c6,rfl⟩,?_⟩;(try simp -implicitDefEqProofs only [EV,Nat.reduceAdd,Nat.reduceEqDiff,Nat.reduceBEq,Nat.reduceLeDiff,reduceCtorEq,TF28,]);refine hK _ _ ?_;clear hK K)
 (refine AWp.seqR [0,1,2,3,4,5,6,8,10,12,13,14,15,16,17] [] (by decide +kernel) fun K hK=>?_;simp -implicitDefEqProofs only [EV,Nat.reduceAdd,Nat.reduceEqDiff,reduceCtorEq,TF28,];refine⟨_,.inl ⟨_,rfl,c7,rfl⟩,?_⟩;(try simp -implicitDefEqProofs only [EV,Nat.reduceAdd,Nat.reduceEqDiff,reduceCtorEq,TF28,]);refine⟨_,.inl ⟨_,rfl,c7,rfl⟩,?_⟩;(try simp -implicitDefEqProofs only [EV,Nat.reduceAdd,Nat.reduceEqDiff,reduceCtorEq,TF28,]);refine⟨_,.inl ⟨_,rfl,c8,rfl⟩,?_⟩;(try simp -implicitDefEqProofs only [EV,Nat.reduceEqDiff,reduceCtorEq,]);refine hK _ _ ?_;clear hK K)
 exact AWp.ret ⟨_,by rw [Tryz.results12];rfl,rfl⟩
theorem stepsSm_last {p:Prog}:∀ {n:Nat} {e:Ex},StepsSm p n e→(stepsE p n e).1.Sm
 | 0,_,h=>h
 | n+1,e,h=>by
  rw [stepsE]
  by_cases ho:(stepE p e).2=1
  ·rw [if_pos ho];exact stepsSm_last (h.2 ho)
  ·rw [if_neg ho];exact h.1
theorem stepsE_cnt (p:Prog):∀ (n:Nat)(e:Ex),0≤(stepsE p n e).2.1∧(stepsE p n e).2.1≤n
 | 0,_=>by simp [stepsE]
 | n+1,e=>by
  rw [stepsE]
  have:=stepsE_cnt p n (stepE p e).1
  by_cases ho:(stepE p e).2=1
  ·rw [if_pos ho];simp only;omega
  ·rw [if_neg ho];simp only;omega
theorem u8_wf {i:Int} (hi:(Lit.int .u8 i).wf=true):0≤i∧i≤255:=by simp [Lit.wf] at hi;exact hi
theorem law25_splits (p:Prog)(e:Ex)(n:Int)(hnw:(Lit.int .u8 n).wf=true)(m:Int)(hmw:(Lit.int .u8 m).wf=true):CallOK Tryz.prog 5 [prV p,exV e,.d (.int .u8 n),.d (.int .u8 m)] (boolV true):=by
 have hn0:0≤n∧n≤255:=u8_wf hnw
 have hm0:0≤m∧m≤255:=u8_wf hmw
 have haw:=ok_awake25
 have hf1:=ok_Few06 p
 have hf2:=ok_Few05 e
 by_cases g1:p.count≤600
 ·rw [decide_eq_true g1] at hf1
  by_cases g2:e.count 0≤250
  ·rw [decide_eq_true g2] at hf2
   have hp:p.Sm:=(Prog.count_sm p g1).1
   obtain⟨a,ha⟩:∃ a:Nat,n.tmod 15=a:=⟨(n.tmod 15).toNat,by have:=Int.tmod_nonneg 15 hn0.1;omega⟩
   obtain⟨b,hb⟩:∃ b:Nat,m.tmod 15=b:=⟨(m.tmod 15).toNat,by have:=Int.tmod_nonneg 15 hm0.1;omega⟩
   have ha15:a < 15:=by have:=Int.tmod_lt_of_pos n (b:=15) (by decide);omega
   have hb15:b < 15:=by have:=Int.tmod_lt_of_pos m (b:=15) (by decide);omega
   have wn:IntKind.i64.wrap n=n:=wrap_i64 (by unfold InR;omega)
   have wm:IntKind.i64.wrap m=m:=wrap_i64 (by unfold InR;omega)
   have c1:=ok_RSteps p hp (a+b) (by omega) e
   have hab:((a+b:Nat):Int)=(a:Int)+(b:Int):=by omega
   rw [hab] at c1
   cases hfew:(refStepsE p (a+b) e).2.2.2 with
   | false =>
    have hr:refStepsE p (a+b) e=((refStepsE p (a+b) e).1,(refStepsE p (a+b) e).2.1,(refStepsE p (a+b) e).2.2.1,false):=by rw [← hfew]
    rw [hr] at c1
    generalize (refStepsE p (a+b) e).1=x at *
    generalize (refStepsE p (a+b) e).2.1=y at *
    generalize (refStepsE p (a+b) e).2.2.1=z at *
    (refine CallOK.of_body Tryz.func5 rfl (by decide) (by rw [Tryz.ntmps5];simp) ?_;rw [Tryz.ntmps5])
    (refine AWp.seqR [0,1,2,3,4,5,8,9,10,11,12,13,14,15,16,17,18,19,20,32,52] [] (by decide +kernel) fun K hK=>?_;simp -implicitDefEqProofs only [EV,Nat.reduceAdd,Nat.reduceEqDiff,Nat.reduceBEq,Nat.reduceLeDiff,reduceCtorEq,];refine hK _ _ ?_;clear hK K)
    refine AWp.seqK fun K1 hK1=>?_
    (refine AWp.seqR [0,1,2,3,4,5,8,9,10,11,12,13,14,15,16,17,18,19,20,32,52] [] (by decide +kernel) fun K hK=>?_;simp -implicitDefEqProofs only [EV,Nat.reduceAdd,Nat.reduceEqDiff,reduceCtorEq,];refine⟨_,.inl ⟨_,rfl,haw,rfl⟩,?_⟩;(try simp -implicitDefEqProofs only [EV,Nat.reduceAdd,Nat.reduceEqDiff,reduceCtorEq,TF30]);refine⟨_,.inl ⟨_,rfl,hf1,rfl⟩,?_⟩;(try simp -implicitDefEqProofs only [EV,Nat.reduceAdd,Nat.reduceEqDiff,reduceCtorEq,TF28]);refine⟨_,.inl ⟨_,rfl,hf2,rfl⟩,?_⟩;(try simp -implicitDefEqProofs only [EV,Nat.reduceEqDiff,reduceCtorEq,]);refine hK _ _ ?_;clear hK K)
    refine AWp.skipIfK rfl hK1 ?_
    clear hK1 K1
    (refine AWp.seqR [0,1,2,3,4,5,8,9,10,11,12,13,14,15,16,17,18,19,20,32,52] [] (by decide +kernel) fun K hK=>?_;simp -implicitDefEqProofs only [EV,Nat.reduceEqDiff,Int.reduceEq,reduceCtorEq,TF3,TF5,wn,ha];refine hK _ _ ?_;clear hK K)
    (refine AWp.seqR [0,1,2,3,4,5,8,9,10,11,12,13,14,15,16,17,18,19,20,32,52] [] (by decide +kernel) fun K hK=>?_;simp -implicitDefEqProofs only [EV,Nat.reduceEqDiff,Int.reduceEq,reduceCtorEq,TF3,TF5,wm,hb];refine hK _ _ ?_;clear hK K)
    (refine AWp.seqR [0,1,2,3,4,5,8,9,10,11,12,13,14,15,16,17,18,19,20,32,52] [] (by decide +kernel) fun K hK=>?_;simp -implicitDefEqProofs only [EV,Nat.reduceAdd,Nat.reduceEqDiff,reduceCtorEq,TF28,TF30];refine⟨by first | (unfold InR;omega) | (simp only [InR,sm,lim] at *;omega),?_⟩;(try simp -implicitDefEqProofs only [EV,forall_const,implies_true,Nat.reduceAdd,Nat.reduceEqDiff,Nat.reduceBEq,Nat.reduceLeDiff,Nat.reduceSub,Nat.reduceMul,Int.reduceEq,Int.reduceLT,Int.reduceLE,Int.reduceSub,Int.reduceAdd,Int.reduceToNat,reduceCtorEq,Int.reduceNeg,TF3,TF4,TF5,TF9,TF28,TF30]);refine⟨_,.inl ⟨_,rfl,c1,rfl⟩,?_⟩;(try simp -implicitDefEqProofs only [EV,Nat.reduceAdd,Nat.reduceEqDiff,Nat.reduceBEq,Nat.reduceLeDiff,reduceCtorEq,TF28]);refine hK _ _ ?_;clear hK K)
    refine AWp.seqK fun K1 hK1=>?_
    (refine AWp.seqR [0,1,2,3,4,5,8,9,10,11,12,13,14,15,16,17,18,19,20,32,52] [] (by decide +kernel) fun K hK=>?_;simp -implicitDefEqProofs only [EV,Nat.reduceEqDiff,reduceCtorEq,];refine hK _ _ ?_;clear hK K)
    refine AWp.takeIfK rfl ?_
    (refine AWp.seqR [0,1,2,3,4,5,8,9,10,11,12,13,14,15,16,17,18,19,20,32,52] [] (by decide +kernel) fun K hK=>?_;simp -implicitDefEqProofs only [EV,Nat.reduceEqDiff,reduceCtorEq,];refine hK _ _ ?_;clear hK K)
    exact AWp.ret ⟨_,by rw [Tryz.results5];rfl,rfl⟩
   | true =>
    obtain⟨k1,k2⟩:=refSteps_steps hfew
    obtain⟨k3,k4,k5,k6⟩:=steps_split b a e k1
    have c2:=ok_Steps p hp a (by omega) e k3
    have c3:=ok_Steps p hp b (by omega) _ k4
    have hxs:(stepsE p b (stepsE p a e).1).1.Sm:=stepsSm_last k4
    have hi:=stepsE_cnt p a e
    have hk:=stepsE_cnt p b (stepsE p a e).1
    rw [k2,k5] at c1
    generalize stepsE p a e=r at *
    obtain⟨x,i,o⟩:=r
    generalize stepsE p b x=r at *
    obtain⟨y,k,o2⟩:=r
    simp only at c1 c2 c3 hxs k6 hi hk
    have c4:=ok_RefSame y hxs y
    rw [sameE_refl] at c4
    (refine CallOK.of_body Tryz.func5 rfl (by decide) (by rw [Tryz.ntmps5];simp) ?_;rw [Tryz.ntmps5])
    (refine AWp.seqR [0,1,2,3,4,5,8,9,10,11,12,13,14,15,16,17,18,19,20,32,52] [] (by decide +kernel) fun K hK=>?_;simp -implicitDefEqProofs only [EV,Nat.reduceAdd,Nat.reduceEqDiff,Nat.reduceBEq,Nat.reduceLeDiff,reduceCtorEq,];refine hK _ _ ?_;clear hK K)
    refine AWp.seqK fun K1 hK1=>?_
    (refine AWp.seqR [0,1,2,3,4,5,8,9,10,11,12,13,14,15,16,17,18,19,20,32,52] [] (by decide +kernel) fun K hK=>?_;simp -implicitDefEqProofs only [EV,Nat.reduceAdd,Nat.reduceEqDiff,reduceCtorEq,];refine⟨_,.inl ⟨_,rfl,haw,rfl⟩,?_⟩;(try simp -implicitDefEqProofs only [EV,Nat.reduceAdd,Nat.reduceEqDiff,reduceCtorEq,TF30]);refine⟨_,.inl ⟨_,rfl,hf1,rfl⟩,?_⟩;(try simp -implicitDefEqProofs only [EV,Nat.reduceAdd,Nat.reduceEqDiff,reduceCtorEq,TF28]);refine⟨_,.inl ⟨_,rfl,hf2,rfl⟩,?_⟩;(try simp -implicitDefEqProofs only [EV,Nat.reduceEqDiff,reduceCtorEq,]);refine hK _ _ ?_;clear hK K)
    refine AWp.skipIfK rfl hK1 ?_
    clear hK1 K1
    (refine AWp.seqR [0,1,2,3,4,5,8,9,10,11,12,13,14,15,16,17,18,19,20,32,52] [] (by decide +kernel) fun K hK=>?_;simp -implicitDefEqProofs only [EV,Nat.reduceEqDiff,Int.reduceEq,reduceCtorEq,TF3,TF5,wn,ha];refine hK _ _ ?_;clear hK K)
    (refine AWp.seqR [0,1,2,3,4,5,8,9,10,11,12,13,14,15,16,17,18,19,20,32,52] [] (by decide +kernel) fun K hK=>?_;simp -implicitDefEqProofs only [EV,Nat.reduceEqDiff,Int.reduceEq,reduceCtorEq,TF3,TF5,wm,hb];refine hK _ _ ?_;clear hK K)
    (refine AWp.seqR [0,1,2,3,4,5,8,9,10,11,12,13,14,15,16,17,18,19,20,32,52] [] (by decide +kernel) fun K hK=>?_;simp -implicitDefEqProofs only [EV,Nat.reduceAdd,Nat.reduceEqDiff,reduceCtorEq,TF28,TF30];refine⟨by first | (unfold InR;omega) | (simp only [InR,sm,lim] at *;omega),?_⟩;(try simp -implicitDefEqProofs only [EV,forall_const,implies_true,Nat.reduceAdd,Nat.reduceEqDiff,Nat.reduceBEq,Nat.reduceLeDiff,Nat.reduceSub,Nat.reduceMul,Int.reduceEq,Int.reduceLT,Int.reduceLE,Int.reduceSub,Int.reduceAdd,Int.reduceToNat,reduceCtorEq,Int.reduceNeg,TF3,TF4,TF5,TF9,TF28,TF30]);refine⟨_,.inl ⟨_,rfl,c1,rfl⟩,?_⟩;(try simp -implicitDefEqProofs only [EV,Nat.reduceAdd,Nat.reduceEqDiff,Nat.reduceBEq,Nat.reduceLeDiff,reduceCtorEq,TF28]);refine hK _ _ ?_;clear hK K)
    refine AWp.seqK fun K1 hK1=>?_
    (refine AWp.seqR [0,1,2,3,4,5,8,9,10,11,12,13,14,15,16,17,18,19,20,32,52] [] (by decide +kernel) fun K hK=>?_;simp -implicitDefEqProofs only [EV,Nat.reduceEqDiff,reduceCtorEq,];refine hK _ _ ?_;clear hK K)
    refine AWp.skipIfK rfl hK1 ?_
    clear hK1 K1
    (refine AWp.seqR [0,1,2,3,4,5,8,9,10,11,12,13,14,15,16,17,18,19,20,32,52] [] (by decide +kernel) fun K hK=>?_;simp -implicitDefEqProofs only [EV,Nat.reduceAdd,Nat.reduceEqDiff,reduceCtorEq,TF28,TF30];refine⟨_,.inl ⟨_,rfl,c2,rfl⟩,?_⟩;(try simp -implicitDefEqProofs only [EV,Nat.reduceAdd,Nat.reduceEqDiff,Nat.reduceBEq,Nat.reduceLeDiff,reduceCtorEq,TF28]);refine hK _ _ ?_;clear hK K)
    (refine AWp.seqR [0,1,2,3,4,5,8,9,10,11,12,13,14,15,16,17,18,19,20,32,52] [] (by decide +kernel) fun K hK=>?_;simp -implicitDefEqProofs only [EV,Nat.reduceAdd,Nat.reduceEqDiff,reduceCtorEq,TF28,TF30];refine⟨_,.inl ⟨_,rfl,c3,rfl⟩,?_⟩;(try simp -implicitDefEqProofs only [EV,Nat.reduceAdd,Nat.reduceEqDiff,Nat.reduceBEq,Nat.reduceLeDiff,reduceCtorEq,TF28]);refine hK _ _ ?_;clear hK K)
    by_cases h1:o=1
    ·(refine AWp.seqR [0,1,2,3,4,5,8,9,10,11,12,13,14,15,16,17,18,19,20,32,52] [] (by decide +kernel) fun K hK=>?_;simp -implicitDefEqProofs only [EV,Nat.reduceAdd,Nat.reduceEqDiff,reduceCtorEq,TF28,h1];refine⟨_,.inl ⟨_,rfl,c4,rfl⟩,?_⟩;(try simp -implicitDefEqProofs only [EV,Nat.reduceEqDiff,reduceCtorEq,]);refine⟨by first | (unfold InR;omega) | (simp only [InR,sm,lim] at *;omega),?_⟩;(try simp -implicitDefEqProofs only [EV,forall_const,implies_true,Nat.reduceAdd,Nat.reduceEqDiff,Nat.reduceBEq,Nat.reduceLeDiff,Nat.reduceSub,Nat.reduceMul,Int.reduceEq,Int.reduceLT,Int.reduceLE,Int.reduceSub,Int.reduceAdd,Int.reduceToNat,reduceCtorEq,Int.reduceNeg,TF3,TF4,TF5,TF9,TF28,TF30,h1]);refine hK _ _ ?_;clear hK K)
     exact AWp.ret ⟨_,by rw [Tryz.results5];rfl,rfl⟩
    ·have h0:k=0:=k6.resolve_left h1
     (refine AWp.seqR [0,1,2,3,4,5,8,9,10,11,12,13,14,15,16,17,18,19,20,32,52] [] (by decide +kernel) fun K hK=>?_;simp -implicitDefEqProofs only [EV,Nat.reduceAdd,Nat.reduceEqDiff,reduceCtorEq,TF28,h0];refine⟨_,.inl ⟨_,rfl,c4,rfl⟩,?_⟩;(try simp -implicitDefEqProofs only [EV,Nat.reduceEqDiff,reduceCtorEq,h1]);refine⟨by first | (unfold InR;omega) | (simp only [InR,sm,lim] at *;omega),?_⟩;(try simp -implicitDefEqProofs only [EV,forall_const,implies_true,Nat.reduceAdd,Nat.reduceEqDiff,Nat.reduceBEq,Nat.reduceLeDiff,Nat.reduceSub,Nat.reduceMul,Int.reduceEq,Int.reduceLT,Int.reduceLE,Int.reduceSub,Int.reduceAdd,Int.reduceToNat,reduceCtorEq,Int.reduceNeg,TF3,TF4,TF5,TF9,TF28,TF30,h1,h0]);refine hK _ _ ?_;clear hK K)
     exact AWp.ret ⟨_,by rw [Tryz.results5];rfl,rfl⟩
  ·rw [decide_eq_false g2] at hf2
   (refine CallOK.of_body Tryz.func5 rfl (by decide) (by rw [Tryz.ntmps5];simp) ?_;rw [Tryz.ntmps5])
   (refine AWp.seqR [0,1,2,3,4,5,8,9,10,11,12,13,14,15,16,17,18,19,20,32,52] [] (by decide +kernel) fun K hK=>?_;simp -implicitDefEqProofs only [EV,Nat.reduceAdd,Nat.reduceEqDiff,Nat.reduceBEq,Nat.reduceLeDiff,reduceCtorEq,];refine hK _ _ ?_;clear hK K)
   refine AWp.seqK fun K1 hK1=>?_
   (refine AWp.seqR [0,1,2,3,4,5,8,9,10,11,12,13,14,15,16,17,18,19,20,32,52] [] (by decide +kernel) fun K hK=>?_;simp -implicitDefEqProofs only [EV,Nat.reduceAdd,Nat.reduceEqDiff,reduceCtorEq,];refine⟨_,.inl ⟨_,rfl,haw,rfl⟩,?_⟩;(try simp -implicitDefEqProofs only [EV,Nat.reduceAdd,Nat.reduceEqDiff,reduceCtorEq,TF30]);refine⟨_,.inl ⟨_,rfl,hf1,rfl⟩,?_⟩;(try simp -implicitDefEqProofs only [EV,Nat.reduceAdd,Nat.reduceEqDiff,reduceCtorEq,TF28]);refine⟨_,.inl ⟨_,rfl,hf2,rfl⟩,?_⟩;(try simp -implicitDefEqProofs only [EV,Nat.reduceEqDiff,reduceCtorEq,]);refine hK _ _ ?_;clear hK K)
   refine AWp.takeIfK rfl ?_
   (refine AWp.seqR [0,1,2,3,4,5,8,9,10,11,12,13,14,15,16,17,18,19,20,32,52] [] (by decide +kernel) fun K hK=>?_;simp -implicitDefEqProofs only [EV,Nat.reduceAdd,Nat.reduceEqDiff,reduceCtorEq,];refine⟨_,.inl ⟨_,rfl,haw,rfl⟩,?_⟩;(try simp -implicitDefEqProofs only [EV,]);refine hK _ _ ?_;clear hK K)
   exact AWp.ret ⟨_,by rw [Tryz.results5];rfl,rfl⟩
 ·rw [decide_eq_false g1] at hf1
  (refine CallOK.of_body Tryz.func5 rfl (by decide) (by rw [Tryz.ntmps5];simp) ?_;rw [Tryz.ntmps5])
  (refine AWp.seqR [0,1,2,3,4,5,8,9,10,11,12,13,14,15,16,17,18,19,20,32,52] [] (by decide +kernel) fun K hK=>?_;simp -implicitDefEqProofs only [EV,Nat.reduceAdd,Nat.reduceEqDiff,Nat.reduceBEq,Nat.reduceLeDiff,reduceCtorEq,];refine hK _ _ ?_;clear hK K)
  refine AWp.seqK fun K1 hK1=>?_
  (refine AWp.seqR [0,1,2,3,4,5,8,9,10,11,12,13,14,15,16,17,18,19,20,32,52] [] (by decide +kernel) fun K hK=>?_;simp -implicitDefEqProofs only [EV,Nat.reduceAdd,Nat.reduceEqDiff,reduceCtorEq,];refine⟨_,.inl ⟨_,rfl,haw,rfl⟩,?_⟩;(try simp -implicitDefEqProofs only [EV,Nat.reduceAdd,Nat.reduceEqDiff,reduceCtorEq,TF30]);refine⟨_,.inl ⟨_,rfl,hf1,rfl⟩,?_⟩;(try simp -implicitDefEqProofs only [EV,Nat.reduceEqDiff,reduceCtorEq,]);refine hK _ _ ?_;clear hK K)
  refine AWp.takeIfK rfl ?_
  (refine AWp.seqR [0,1,2,3,4,5,8,9,10,11,12,13,14,15,16,17,18,19,20,32,52] [] (by decide +kernel) fun K hK=>?_;simp -implicitDefEqProofs only [EV,Nat.reduceAdd,Nat.reduceEqDiff,reduceCtorEq,];refine⟨_,.inl ⟨_,rfl,haw,rfl⟩,?_⟩;(try simp -implicitDefEqProofs only [EV,]);refine hK _ _ ?_;clear hK K)
  exact AWp.ret ⟨_,by rw [Tryz.results5];rfl,rfl⟩
end Go.Abs
