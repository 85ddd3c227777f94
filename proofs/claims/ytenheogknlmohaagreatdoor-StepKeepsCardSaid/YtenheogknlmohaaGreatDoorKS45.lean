/- step.Steps, castingsref25.Steps: some steps at once -/
import Derived.Test.YtenheogknlmohaaGreatDoorKS43
import Derived.Test.YtenheogknlmohaaGreatDoorKAb11
namespace Go.Abs
set_option linter.unusedSimpArgs false
set_option linter.unusedVariables false
open Go Go.Proofs Tryz
set_option maxRecDepth 100000
set_option maxHeartbeats 1000000
def stepsE (p:Prog):Nat→Ex→Ex × Int × Int
 | 0,e=>(e,0,(stepE p e).2)
 | n+1,e=>if (stepE p e).2=1 then ((stepsE p n (stepE p e).1).1,(stepsE p n (stepE p e).1).2.1+1,(stepsE p n (stepE p e).1).2.2) else (e,0,(stepE p e).2)
def StepsSm (p:Prog):Nat→Ex→Prop
 | 0,e=>e.Sm
 | n+1,e=>e.Sm∧((stepE p e).2=1→StepsSm p n (stepE p e).1)
theorem StepsSm.sm {p:Prog}:∀ {n:Nat} {e:Ex},StepsSm p n e→e.Sm
 | 0,_,h=>h
 | _+1,_,h=>h.1
abbrev resV3 (r:Ex × Int × Int):SV:=.tuple [exV r.1,intV r.2.1,intV r.2.2]
abbrev q1zx:List Nat:=[0,1,2,3,4,6,7,8,9,10,11,12,28]
theorem ok_Steps (p:Prog)(h:p.Sm)(n:Nat)(hn:n≤1000000)(e0:Ex)(hs:StepsSm p n e0):CallOK prog 27 [prV p,exV e0,intV n] (resV3 (stepsE p n e0)):=by
 have h1:=ok_New p h
 generalize hR:stepsE p n e0=R
 refine cB func27 ?_
 refine sR q1zx ?_
 refine AWp.scope ?_
 refine sC h1 q1zx ?_
 refine sR q1zx ?_
 refine AWp.seqLabel ?_
 refine AWp.block (AWp.loop (X:=Nat × Ex) (fun z=>[(2,intV n),(4,.box 4 0),(6,.box 6 0),(7,.d (.int .i64 0)),(8,.d (.int .i64 0)),(9,.box 9 0),(10,intV z.1)])
  (fun z=>[(4,.cells (exS z.2)),(6,.cells [.d (.int .i64 0),.d (.str []),.d (.str []),.d .nil,.d (.int .i64 0),.d .nil,.d .nil,.d (.int .i64 0)]),(9,.cells [.dptr (tabC p) 0])])
  (fun z=>z.1≤n∧StepsSm p (n - z.1) z.2∧(stepsE p (n - z.1) z.2).1=R.1∧(stepsE p (n - z.1) z.2).2.1+z.1=R.2.1∧(stepsE p (n - z.1) z.2).2.2=R.2.2) (fun z=>n - z.1) (0,e0)
  ⟨Nat.zero_le _,hs,by rw [Nat.sub_zero,hR],by rw [Nat.sub_zero,hR];simp,by rw [Nat.sub_zero,hR]⟩ sS (by simp [ble,bget,exS]) ?_)
 rintro⟨i,e⟩ ⟨hi,hse,r1,r2,r3⟩
 simp only at hi hse r1 r2 r3 ⊢
 refine AWp.block ?_
 have h2:=ok_mstep p h e hse.sm
 have h3:=ok_EClone e hse.sm
 by_cases ho:(stepE p e).2=1
 ·by_cases hin:i=n
  ·subst hin
   have hge:(i:Int) ≥ (i:Int):=Int.le_refl _
   rw [Nat.sub_self] at r1 r2 r3
   simp only [stepsE] at r1 r2 r3
   rw [ho] at r3
   have hR':R=(e,(i:Int),1):=by
    obtain⟨a,b,c⟩:=R
    simp only at r1 r2 r3
    rw [← r1,← r2,← r3];simp
   rw [hR']
   generalize stepE p e=r at *
   obtain⟨x,o⟩:=r
   simp only at ho
   subst ho
   refine sC h2 q1zx ?_
   refine kR1 hge q1zx fun K1 u1=>?_
   refine tI ?_
   refine sC h3 q1zx ?_
   exact aR
  ·have hlt:¬ (i:Int) ≥ (n:Int):=by omega
   obtain⟨k,hk⟩:∃ k,n - i=k+1:=⟨n - i - 1,by omega⟩
   have hk':n - (i+1)=k:=by omega
   rw [hk] at hse r1 r2 r3
   simp only [stepsE,ho,if_true] at r1 r2 r3
   have hse':=hse.2 ho
   generalize stepE p e=r at *
   obtain⟨x,o⟩:=r
   simp only at ho hse' r1 r2 r3
   subst ho
   refine sC h2 q1zx ?_
   refine kR1 hlt q1zx fun K1 u1=>?_
   refine kI u1 ?_
   clear u1 K1
   refine sR q1zx ?_
   (refine sV q1zx fun K z=>?_;refine cl ?_;apply z;clear z K)
   refine AWp.exit ?_
   simp only [thenA,blockA,if_true]
   exact⟨(i+1,x),⟨by simp only;omega,by simp only;rw [hk'];exact hse',by simp only;rw [hk'];exact r1,by simp only;rw [hk'];omega,by simp only;rw [hk'];exact r3⟩,by simp only;omega,sS,by simp [ble,bget,exS]⟩
 ·have hst:stepsE p (n - i) e=(e,0,(stepE p e).2):=by
   cases n - i with
   | zero=>rfl
   | succ k=>rw [stepsE,if_neg ho]
  rw [hst] at r1 r2 r3
  have hR':R=(e,(i:Int),(stepE p e).2):=by
   obtain⟨a,b,c⟩:=R
   simp only at r1 r2 r3
   rw [← r1,← r2,← r3];simp
  rw [hR']
  simp only
  generalize stepE p e=r at *
  obtain⟨x,o⟩:=r
  simp only at ho ⊢
  refine sC h2 q1zx ?_
  refine kR1 ho q1zx fun K1 u1=>?_
  refine tI ?_
  refine sC h3 q1zx ?_
  exact aR
theorem stepsE_halt {p:Prog} {e:Ex} (ho:(stepE p e).2≠1):∀ n,stepsE p n e=(e,0,(stepE p e).2)
 | 0=>rfl
 | n+1=>by rw [stepsE,if_neg ho]
def r0:Ty:=.mk [] [] 0
def rT:Ty:=.mk [84] [] 0
def rB:Ty:=.mk [66] [] 0
def rt:Ex:=.mk 3 [] rT [] [] 0
def rb:Ex:=.mk 3 [] rB [] [rt] 0
def rs:Ex:=.mk 4 [118] r0 [] [rb] 0
def ru:Ex:=.mk 1 [120] r0 [] [] 0
def ra:Ex:=.mk 5 [] rB [] [rt] 0
def rEx:Ex:=.mk 0 [] r0 [] [] 0
def rSig:Sig:=⟨[],[],[],r0,0⟩
def rP:Prog:=⟨[⟨1,[84],[],[],[],[],[],rSig,rEx,0⟩,⟨1,[66],[],[⟨[118],rT,0⟩],[],[],[],rSig,rEx,0⟩],rEx⟩
theorem rP_sm:rP.Sm:=(rP.count_sm (by decide +kernel)).1
theorem rx_sm (e:Ex)(h:e.count 0≤2000):e.Sm:=Ex.count_sm e 0 (by decide) h
theorem rt_sm:rt.Sm:=rx_sm _ (by decide +kernel)
theorem rs_sm:rs.Sm:=rx_sm _ (by decide +kernel)
theorem ru_sm:ru.Sm:=rx_sm _ (by decide +kernel)
theorem ra_sm:ra.Sm:=rx_sm _ (by decide +kernel)
theorem w1:stepE rP rs=(rt,1):=by
 have hL:stepL rP rs.kids=none:=by rfl
 rw [stepE_eq,hL]
 simp only
 unfold redexE
 rw [if_neg (by decide),show rs.kids[0]? = some rb from rfl]
 simp only
 rw [if_neg (by decide),if_pos (by decide)]
 unfold selE
 rw [if_pos (by decide +kernel)]
 rfl
theorem w2:stepE rP rt=(rt,2):=by
 rw [stepE_eq,show stepL rP rt.kids=none by rfl]
 simp only
 unfold redexE
 rw [if_pos (by decide)]
theorem w3:stepE rP ru=(ru,4):=by
 rw [stepE_eq,show stepL rP ru.kids=none by rfl]
 simp only
 unfold redexE
 rw [if_neg (by decide),show ru.kids[0]? = none from rfl]
theorem w4:stepE rP ra=(ra,3):=by
 rw [stepE_eq,show stepL rP ra.kids=none by rfl]
 simp only
 unfold redexE
 rw [if_neg (by decide),show ra.kids[0]? = some rt from rfl]
 simp only
 rw [if_neg (by decide),if_neg (by decide),if_pos (by decide)]
 unfold asrtE implB
 rw [show isIface rP [] ra.type=false by decide +kernel]
 simp only [Bool.false_eq_true,if_false]
 rw [if_neg (by decide +kernel)]
theorem w5:stepsE rP 5 rs=(rt,1,2):=by
 rw [stepsE,w1]
 simp only [if_true]
 rw [stepsE_halt (by rw [w2];decide),w2]
 rfl
theorem w6:rdxE rs=(rs,true):=by rfl
theorem w7:StepsSm rP 5 rs:=by
 refine⟨rs_sm,fun _=>?_⟩
 rw [w1]
 refine⟨rt_sm,fun h=>?_⟩
 rw [w2] at h
 exact absurd h (by decide)
abbrev q1Ax:List Nat:=[0,1,2,3,4,5,6,8,10,12,13,14,15,16,17]
theorem ok_awake25:CallOK prog 12 [] (boolV true):=by
 have c1:=ok_Step rP rP_sm rs rs_sm (by rw [w1];exact rt_sm)
 have c2:=ok_Step rP rP_sm rt rt_sm (by rw [w2];exact rt_sm)
 have c3:=ok_Step rP rP_sm ru ru_sm (by rw [w3];exact ru_sm)
 have c4:=ok_Step rP rP_sm ra ra_sm (by rw [w4];exact ra_sm)
 have c5:=ok_Steps rP rP_sm 5 (by decide) rs w7
 have c6:=ok_SRedex rs rs_sm
 have c7:=ok_RefSame rt rt_sm rt
 have c8:=ok_RefSame rs rs_sm rs
 rw [w1] at c1;rw [w2] at c2;rw [w3] at c3;rw [w4] at c4;rw [w5] at c5;rw [w6] at c6;rw [sameE_refl] at c7 c8
 refine cB func12 ?_
 refine sR q1Ax ?_
 refine sR q1Ax ?_
 refine sR q1Ax ?_
 refine sR q1Ax ?_
 refine sR q1Ax ?_
 refine sC c1 q1Ax ?_
 refine sC c2 q1Ax ?_
 refine sC c3 q1Ax ?_
 refine sC c4 q1Ax ?_
 refine sC c5 q1Ax ?_
 refine sC c6 q1Ax ?_
 (refine sV q1Ax fun K z=>?_;refine cc c7 ?_;refine cc c7 ?_;refine cc c8 ?_;apply z;clear z K)
 exact aR
end Go.Abs
