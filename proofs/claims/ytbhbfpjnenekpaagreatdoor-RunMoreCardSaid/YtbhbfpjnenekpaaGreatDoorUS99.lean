/- the walk of RunMore -/
import Derived.Test.YtbhbfpjnenekpaaGreatDoorUS98
import Derived.Test.YtbhbfpjnenekpaaGreatDoorUT07
namespace Go.Abs
set_option maxHeartbeats 1000000
set_option linter.unusedSimpArgs false
set_option linter.unusedVariables false
open Go Go.Proofs Tryz
set_option maxRecDepth 100000
set_option maxHeartbeats 2000000
def Out4 (o:Int):Prop:=o=1∨o=2∨o=3∨o=4
theorem stepE_out (p:Prog):∀ e:Ex,Out4 (stepE p e).2:=by
 intro e
 induction e using Ex.induct with | _ e ih=>?_
 rw [stepE_eq]
 rcases stepL_cases p e.kids with ⟨_,hb'⟩ | ⟨i,k,_,hi,_,_,hb'⟩
 ·rw [hb']
  simp only
  unfold redexE Out4
  split
  ·simp
  ·split
   ·simp
   ·split
    ·unfold callE
     split
     ·simp
     ·split <;> simp
    split
    ·unfold selE
     split <;> simp
    split
    ·unfold asrtE
     split <;> simp
    ·simp
 ·rw [hb']
  simp only
  have:=ih k (List.mem_of_getElem? hi)
  split
  ·exact .inl rfl
  ·exact this
theorem stepsE_out (p:Prog):∀ (n:Nat)(e:Ex),Out4 (stepsE p n e).2.2
 | 0,e=>stepE_out p e
 | n+1,e=>by
  rw [stepsE]
  split
  ·exact stepsE_out p n _
  ·exact stepE_out p e
theorem stepsE_full {p:Prog}:∀ {n:Nat} {e:Ex},(stepsE p n e).2.2=1→(stepsE p n e).2.1=n
 | 0,_,_=>rfl
 | n+1,e,h=>by
  rw [stepsE] at h ⊢
  split at h
  ·rename_i ho
   rw [if_pos ho]
   have:=stepsE_full h
   simp only at this ⊢
   omega
  ·rename_i ho
   exact absurd h ho
theorem stepsE_more {p:Prog} (k:Nat):∀ {n:Nat} {e:Ex},StepsSm p n e→(stepsE p n e).2.2≠1→StepsSm p (n+k) e∧stepsE p (n+k) e=stepsE p n e
 | 0,e,h,ho=>by
  have ho:(stepE p e).2≠1:=ho
  rw [Nat.zero_add,stepsE_halt ho,stepsE_halt ho]
  refine⟨?_,rfl⟩
  cases k with
  | zero=>exact h
  | succ k=>exact⟨h,fun g=>absurd g ho⟩
 | n+1,e,h,ho=>by
  rw [show n+1+k=(n+k)+1 by omega]
  by_cases h1:(stepE p e).2=1
  ·rw [stepsE,if_pos h1] at ho
   obtain⟨g1,g2⟩:=stepsE_more k (h.2 h1) ho
   refine⟨⟨h.1,fun _=>g1⟩,?_⟩
   rw [stepsE,if_pos h1,g2,stepsE,if_pos h1]
  ·rw [stepsE_halt h1,stepsE_halt h1]
   exact⟨⟨h.1,fun g=>absurd g h1⟩,rfl⟩
abbrev q1Ox:List Nat:=[0,1,2,3,6,7,8,9,10,17,31,49,52]
theorem law26_more (p:Prog)(n:Int)(hnw:(Lit.int .u8 n).wf=true)(m:Int)(hmw:(Lit.int .u8 m).wf=true):CallOK prog 6 [prV p,.d (.int .u8 n),.d (.int .u8 m)] (boolV true):=by
 have haw:=ok_awake26
 have hg:=ok_good p
 cases hgb:goodB p with
 | false =>
  unfold goodB at hgb
  rw [hgb] at hg
  refine cB func6 ?_
  refine sR q1Ox ?_
  refine sK fun K1 u1=>?_
  (refine sV q1Ox fun K z=>?_;refine cc haw ?_;refine cc hg ?_;apply z;clear z K)
  refine tI ?_
  refine sC haw q1Ox ?_
  exact aR
 | true =>
 unfold goodB at hgb
 rw [hgb] at hg
 simp only [Bool.and_eq_true,decide_eq_true_eq] at hgb
 obtain⟨g1,g2⟩:=hgb
 have hfit:=Prog.count_Fit p g1
 have hp:p.Sm:=hfit.sm
 obtain⟨a,ha,ha30,wn⟩:=u8_rem hnw 30 (by decide)
 have ha:n.tmod 30=a:=ha
 have hm0:=u8_wf hmw
 obtain⟨b,rfl⟩:∃ b:Nat,m=b:=⟨m.toNat,by omega⟩
 have wm:IntKind.i64.wrap (b:Int)=b:=wrap_i64 (by unfold InR;omega)
 have c1:=ok_RefExpr p hp a (by omega) p.main
 cases hfew:(refStepsE p a p.main).2.2.2 with
 | false =>
  rw [hfew] at c1
  generalize outR (refStepsE p a p.main).2.2.1=z at *
  generalize (refStepsE p a p.main).1=x at *
  generalize (refStepsE p a p.main).2.1=y at *
  refine cB func6 ?_
  refine sR q1Ox ?_
  refine sK fun K1 u1=>?_
  (refine sV q1Ox fun K z=>?_;refine cc haw ?_;refine cc hg ?_;apply z;clear z K)
  refine kI u1 ?_
  clear u1 K1
  refine sR2 wn ha q1Ox ?_
  refine sC c1 q1Ox ?_
  refine kR q1Ox fun K1 u1=>?_
  refine tI ?_
  refine sR q1Ox ?_
  exact aR
 | true =>
  obtain⟨k1,k2⟩:=refSteps_steps hfew
  rw [k2] at c1
  simp only at c1
  have c2:=ok_RunMain p hp a (by omega) k1
  have c4:=ok_same (outR (stepsE p a p.main).2.2) (stepsE p a p.main).2.1 _ (stepsSm_last k1)
  have c5:=ok_Program17 p hfit true
  have hst:(progT p true).bad=false→(stepsE p a p.main).2.2≠4:=fun h=>never_stuck g2 h a
  have hfull:=@stepsE_full p a p.main
  have hmore:=stepsE_more (p:=p) b k1
  have c6:=fun hs=>ok_RunMain p hp (a+b) (by omega) hs
  have hab:((a+b:Nat):Int)=(a:Int)+(b:Int):=by omega
  rw [hab] at c6
  have hcnt:=stepsE_cnt p a p.main
  rcases stepsE_out p a p.main with ho | ho | ho | ho
  ·have hi:=hfull ho
   clear hmore c6 hfew k1 k2 hst hfull hcnt
   generalize stepsE p a p.main=r at *
   obtain⟨x,i,o⟩:=r
   simp only at ho hi c1 c2 c4
   subst ho
   subst hi
   simp only [outR,if_true] at c1 c2 c4
   refine cB func6 ?_
   refine sR q1Ox ?_
   refine sK fun K1 u1=>?_
   (refine sV q1Ox fun K z=>?_;refine cc haw ?_;refine cc hg ?_;apply z;clear z K)
   refine kI u1 ?_
   clear u1 K1
   refine sR2 wn ha q1Ox ?_
   refine sC c1 q1Ox ?_
   refine kR q1Ox fun K1 u1=>?_
   refine kI u1 ?_
   clear u1 K1
   refine sC c2 q1Ox ?_
   refine kC c4 q1Ox fun K1 u1=>?_
   refine kI u1 ?_
   clear u1 K1
   refine kR q1Ox fun K1 u1=>?_
   refine tI ?_
   refine sR q1Ox ?_
   exact aR
  ·obtain⟨q1,q2⟩:=hmore (by rw [ho];decide)
   have c6:=c6 q1
   rw [q2] at c6
   clear hmore hfew k1 k2 hst hfull q1 q2
   generalize stepsE p a p.main=r at *
   obtain⟨x,i,o⟩:=r
   simp only at ho c1 c2 c4 c6
   subst ho
   simp only [outR,show ¬ (2:Int)=1 by decide,if_false] at c1 c2 c4 c6
   refine cB func6 ?_
   refine sR q1Ox ?_
   refine sK fun K1 u1=>?_
   (refine sV q1Ox fun K z=>?_;refine cc haw ?_;refine cc hg ?_;apply z;clear z K)
   refine kI u1 ?_
   clear u1 K1
   refine sR2 wn ha q1Ox ?_
   refine sC c1 q1Ox ?_
   refine kR q1Ox fun K1 u1=>?_
   refine kI u1 ?_
   clear u1 K1
   refine sC c2 q1Ox ?_
   refine kC c4 q1Ox fun K1 u1=>?_
   refine kI u1 ?_
   clear u1 K1
   refine kR q1Ox fun K1 u1=>?_
   refine kI u1 ?_
   clear u1 K1
   (refine sG q1Ox [] 7 [] fun K z=>?_;refine ev1 wm ?_;refine⟨by first | (unfold InR;omega) | (simp only [InR,sm,lim] at *;omega),?_⟩;(try refine ev1 wm ?_);refine⟨_,.inl ⟨_,rfl,c6,rfl⟩,?_⟩;(try refine ev1 wm ?_);refine⟨_,.inl ⟨_,rfl,c4,rfl⟩,?_⟩;(try refine ev1 wm ?_);apply z;clear z K)
   exact aR
  ·obtain⟨q1,q2⟩:=hmore (by rw [ho];decide)
   have c6:=c6 q1
   rw [q2] at c6
   clear hmore hfew k1 k2 hst hfull q1 q2
   generalize stepsE p a p.main=r at *
   obtain⟨x,i,o⟩:=r
   simp only at ho c1 c2 c4 c6
   subst ho
   simp only [outR,show ¬ (3:Int)=1 by decide,if_false] at c1 c2 c4 c6
   refine cB func6 ?_
   refine sR q1Ox ?_
   refine sK fun K1 u1=>?_
   (refine sV q1Ox fun K z=>?_;refine cc haw ?_;refine cc hg ?_;apply z;clear z K)
   refine kI u1 ?_
   clear u1 K1
   refine sR2 wn ha q1Ox ?_
   refine sC c1 q1Ox ?_
   refine kR q1Ox fun K1 u1=>?_
   refine kI u1 ?_
   clear u1 K1
   refine sC c2 q1Ox ?_
   refine kC c4 q1Ox fun K1 u1=>?_
   refine kI u1 ?_
   clear u1 K1
   refine kR q1Ox fun K1 u1=>?_
   refine kI u1 ?_
   clear u1 K1
   (refine sG q1Ox [] 7 [] fun K z=>?_;refine ev1 wm ?_;refine⟨by first | (unfold InR;omega) | (simp only [InR,sm,lim] at *;omega),?_⟩;(try refine ev1 wm ?_);refine⟨_,.inl ⟨_,rfl,c6,rfl⟩,?_⟩;(try refine ev1 wm ?_);refine⟨_,.inl ⟨_,rfl,c4,rfl⟩,?_⟩;(try refine ev1 wm ?_);apply z;clear z K)
   exact aR
  ·obtain⟨q1,q2⟩:=hmore (by rw [ho];decide)
   have c6:=c6 q1
   rw [q2] at c6
   have hb:(progT p true).bad=true:=by
    cases hh:(progT p true).bad with
    | true=>rfl
    | false=>exact absurd ho (hst hh)
   clear hmore hfew k1 k2 hst hfull q1 q2
   generalize stepsE p a p.main=r at *
   obtain⟨x,i,o⟩:=r
   generalize progT p true=w at *
   obtain⟨w1,w2,w3⟩:=w
   simp only at ho c1 c2 c4 c6 hb
   subst ho
   subst hb
   simp only [outR,show ¬ (4:Int)=1 by decide,if_false] at c1 c2 c4 c6
   refine cB func6 ?_
   refine sR q1Ox ?_
   refine sK fun K1 u1=>?_
   (refine sV q1Ox fun K z=>?_;refine cc haw ?_;refine cc hg ?_;apply z;clear z K)
   refine kI u1 ?_
   clear u1 K1
   refine sR2 wn ha q1Ox ?_
   refine sC c1 q1Ox ?_
   refine kR q1Ox fun K1 u1=>?_
   refine kI u1 ?_
   clear u1 K1
   refine sC c2 q1Ox ?_
   refine sK fun K1 u1=>?_
   (refine sV q1Ox fun K z=>?_;refine cc c4 ?_;refine cc c5 ?_;apply z;clear z K)
   refine kI u1 ?_
   clear u1 K1
   refine kR q1Ox fun K1 u1=>?_
   refine kI u1 ?_
   clear u1 K1
   (refine sG q1Ox [] 7 [] fun K z=>?_;refine ev1 wm ?_;refine⟨by first | (unfold InR;omega) | (simp only [InR,sm,lim] at *;omega),?_⟩;(try refine ev1 wm ?_);refine⟨_,.inl ⟨_,rfl,c6,rfl⟩,?_⟩;(try refine ev1 wm ?_);refine⟨_,.inl ⟨_,rfl,c4,rfl⟩,?_⟩;(try refine ev1 wm ?_);apply z;clear z K)
   exact aR
end Go.Abs
