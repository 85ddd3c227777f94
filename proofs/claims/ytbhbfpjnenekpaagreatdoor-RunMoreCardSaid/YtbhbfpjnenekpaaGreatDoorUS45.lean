/- step.Steps, castingsref25.Steps: some steps at once -/
import Derived.Test.YtbhbfpjnenekpaaGreatDoorUS43
import Derived.Test.YtbhbfpjnenekpaaGreatDoorUAb11
namespace Go.Abs
set_option linter.unusedSimpArgs false
set_option linter.unusedVariables false
open Go Go.Proofs Tryz
set_option maxRecDepth 100000
set_option maxHeartbeats 1000000
def stepsE (p:Prog):Nat→Ex→Ex × Int × Int
 | 0,e=>(e,0,(stepE p e).2)
 | n+1,e=>if (stepE p e).2=1 then ((stepsE p n (stepE p e).1).1,(stepsE p n (stepE p e).1).2.1+1,(stepsE p n (stepE p e).1).2.2) else (e,0,(stepE p e).2)
def StepsSm (p:Prog):Nat→Ex→Prop
 | 0,e=>e.Sm
 | n+1,e=>e.Sm∧((stepE p e).2=1→StepsSm p n (stepE p e).1)
theorem StepsSm.sm {p:Prog}:∀ {n:Nat} {e:Ex},StepsSm p n e→e.Sm
 | 0,_,h=>h
 | _+1,_,h=>h.1
abbrev resV3 (r:Ex × Int × Int):SV:=.tuple [exV r.1,intV r.2.1,intV r.2.2]
abbrev q1hx:List Nat:=[0,1,2,3,4,6,7,8,9,10,11,12,28]
theorem ok_Steps (p:Prog)(h:p.Sm)(n:Nat)(hn:n≤1000000)(e0:Ex)(hs:StepsSm p n e0):CallOK prog 132 [prV p,exV e0,intV n] (resV3 (stepsE p n e0)):=by
 have h1:=ok_New p h
 generalize hR:stepsE p n e0=R
 refine cB func132 ?_
 refine sR q1hx ?_
 refine AWp.scope ?_
 refine sC h1 q1hx ?_
 refine sR q1hx ?_
 refine AWp.seqLabel ?_
 refine AWp.block (AWp.loop (X:=Nat × Ex) (fun z=>[(2,intV n),(4,.box 4 0),(6,.box 6 0),(7,.d (.int .i64 0)),(8,.d (.int .i64 0)),(9,.box 9 0),(10,intV z.1)])
  (fun z=>[(4,.cells (exS z.2)),(6,.cells [.d (.int .i64 0),.d (.str []),.d (.str []),.d .nil,.d (.int .i64 0),.d .nil,.d .nil,.d (.int .i64 0)]),(9,.cells [.dptr (tabC p) 0])])
  (fun z=>z.1≤n∧StepsSm p (n - z.1) z.2∧(stepsE p (n - z.1) z.2).1=R.1∧(stepsE p (n - z.1) z.2).2.1+z.1=R.2.1∧(stepsE p (n - z.1) z.2).2.2=R.2.2) (fun z=>n - z.1) (0,e0)
  ⟨Nat.zero_le _,hs,by rw [Nat.sub_zero,hR],by rw [Nat.sub_zero,hR];simp,by rw [Nat.sub_zero,hR]⟩ sS (by simp [ble,bget,exS]) ?_)
 rintro⟨i,e⟩ ⟨hi,hse,r1,r2,r3⟩
 simp only at hi hse r1 r2 r3 ⊢
 refine AWp.block ?_
 have h2:=ok_mstep p h e hse.sm
 have h3:=ok_EClone e hse.sm
 by_cases ho:(stepE p e).2=1
 ·by_cases hin:i=n
  ·subst hin
   have hge:(i:Int) ≥ (i:Int):=Int.le_refl _
   rw [Nat.sub_self] at r1 r2 r3
   simp only [stepsE] at r1 r2 r3
   rw [ho] at r3
   have hR':R=(e,(i:Int),1):=by
    obtain⟨a,b,c⟩:=R
    simp only at r1 r2 r3
    rw [← r1,← r2,← r3];simp
   rw [hR']
   generalize stepE p e=r at *
   obtain⟨x,o⟩:=r
   simp only at ho
   subst ho
   refine sC h2 q1hx ?_
   refine kR1 hge q1hx fun K1 u1=>?_
   refine tI ?_
   refine sC h3 q1hx ?_
   exact aR
  ·have hlt:¬ (i:Int) ≥ (n:Int):=by omega
   obtain⟨k,hk⟩:∃ k,n - i=k+1:=⟨n - i - 1,by omega⟩
   have hk':n - (i+1)=k:=by omega
   rw [hk] at hse r1 r2 r3
   simp only [stepsE,ho,if_true] at r1 r2 r3
   have hse':=hse.2 ho
   generalize stepE p e=r at *
   obtain⟨x,o⟩:=r
   simp only at ho hse' r1 r2 r3
   subst ho
   refine sC h2 q1hx ?_
   refine kR1 hlt q1hx fun K1 u1=>?_
   refine kI u1 ?_
   clear u1 K1
   refine sR q1hx ?_
   (refine sV q1hx fun K z=>?_;refine cl ?_;apply z;clear z K)
   refine AWp.exit ?_
   simp only [thenA,blockA,if_true]
   exact⟨(i+1,x),⟨by simp only;omega,by simp only;rw [hk'];exact hse',by simp only;rw [hk'];exact r1,by simp only;rw [hk'];omega,by simp only;rw [hk'];exact r3⟩,by simp only;omega,sS,by simp [ble,bget,exS]⟩
 ·have hst:stepsE p (n - i) e=(e,0,(stepE p e).2):=by
   cases n - i with
   | zero=>rfl
   | succ k=>rw [stepsE,if_neg ho]
  rw [hst] at r1 r2 r3
  have hR':R=(e,(i:Int),(stepE p e).2):=by
   obtain⟨a,b,c⟩:=R
   simp only at r1 r2 r3
   rw [← r1,← r2,← r3];simp
  rw [hR']
  simp only
  generalize stepE p e=r at *
  obtain⟨x,o⟩:=r
  simp only at ho ⊢
  refine sC h2 q1hx ?_
  refine kR1 ho q1hx fun K1 u1=>?_
  refine tI ?_
  refine sC h3 q1hx ?_
  exact aR
def refStepsE (p:Prog):Nat→Ex→Ex × Int × Int × Bool
 | 0,e=>if e.count 0 > 400 then (e,0,0,false) else (e,0,(stepE p e).2,true)
 | n+1,e=>if e.count 0 > 400 then (e,0,0,false) else if (stepE p e).2=1 then ((refStepsE p n (stepE p e).1).1,(refStepsE p n (stepE p e).1).2.1+1,(refStepsE p n (stepE p e).1).2.2) else (e,0,(stepE p e).2,true)
abbrev resV4 (r:Ex × Int × Int × Bool):SV:=.tuple [exV r.1,intV r.2.1,intV r.2.2.1,boolV r.2.2.2]
abbrev q2hx:List Nat:=[0,1,2,3,4,6,7,8,9,10,11,12,15,20,35]
theorem ok_RSteps (p:Prog)(h:p.Sm)(n:Nat)(hn:n≤1000000)(e0:Ex):CallOK prog 68 [prV p,exV e0,intV n] (resV4 (refStepsE p n e0)):=by
 generalize hR:refStepsE p n e0=R
 refine cB func68 ?_
 refine sR q2hx ?_
 refine kR q2hx fun K1 u1=>?_
 refine AWp.block (AWp.loop (X:=Nat × Ex) (fun z=>[(2,intV n),(3,.box 3 0),(4,.box 4 0),(6,.box 6 0),(7,.d (.int .i64 0)),(8,.d (.int .i64 0)),(9,.d (.bool false)),(10,intV z.1)])
  (fun z=>[(3,.cells ((prC p).map .d)),(4,.cells (exS z.2)),(6,.cells [.d (.int .i64 0),.d (.str []),.d (.str []),.d .nil,.d (.int .i64 0),.d .nil,.d .nil,.d (.int .i64 0)])])
  (fun z=>z.1≤n∧(refStepsE p (n - z.1) z.2).1=R.1∧(refStepsE p (n - z.1) z.2).2.1+z.1=R.2.1∧(refStepsE p (n - z.1) z.2).2.2=R.2.2) (fun z=>n - z.1) (0,e0)
  ⟨Nat.zero_le _,by rw [Nat.sub_zero,hR],by rw [Nat.sub_zero,hR];simp,by rw [Nat.sub_zero,hR]⟩ sS (by simp [ble,bget,exS,prC]) ?_)
 rintro⟨i,e⟩ ⟨hi,r1,r2,r3⟩
 simp only at hi r1 r2 r3 ⊢
 have hle:(i:Int)≤(n:Int):=by omega
 have hc:=ok_Count05 e 0 (by decide) (by decide)
 refine kR1 hle q2hx fun K2 u2=>?_
 refine gI u2 ?_
 clear u2 K2
 refine sK fun K2 u2=>?_
 refine AWp.block ?_
 by_cases hbig:e.count 0 > 400
 ·have hst:refStepsE p (n - i) e=(e,0,0,false):=by
   cases n - i with
   | zero=>rw [refStepsE,if_pos hbig]
   | succ k=>rw [refStepsE,if_pos hbig]
  rw [hst] at r1 r2 r3
  have hR':R=(e,(i:Int),0,false):=by
   obtain⟨a,b,c,d⟩:=R
   simp only [Prod.mk.injEq] at r1 r2 r3
   rw [← r1,← r2,← r3.1,← r3.2];simp
  rw [hR']
  refine sK fun K3 u3=>?_
  (refine sQ q2hx fun K z=>?_;refine ev1 hbig ?_;refine⟨_,.inl ⟨_,rfl,hc,rfl⟩,?_⟩;(try refine ev1 hbig ?_);apply z;clear z K)
  refine tI ?_
  refine sR q2hx ?_
  exact aR
 ·have he:e.Sm:=Ex.count_sm e 0 (by decide) (by omega)
  have h2:=ok_RStep p (fun e he _=>ok_redex p h e he) e he
  by_cases ho:(stepE p e).2=1
  ·by_cases hin:i=n
   ·subst hin
    rw [Nat.sub_self] at r1 r2 r3
    simp only [refStepsE,if_neg hbig] at r1 r2 r3
    rw [ho] at r3
    have hR':R=(e,(i:Int),1,true):=by
     obtain⟨a,b,c,d⟩:=R
     simp only [Prod.mk.injEq] at r1 r2 r3
     rw [← r1,← r2,← r3.1,← r3.2];simp
    rw [hR']
    generalize stepE p e=r at *
    obtain⟨x,o⟩:=r
    simp only at ho
    subst ho
    refine sK fun K3 u3=>?_
    (refine sQ q2hx fun K z=>?_;refine ev1 hbig ?_;refine⟨_,.inl ⟨_,rfl,hc,rfl⟩,?_⟩;(try refine ev1 hbig ?_);apply z;clear z K)
    refine kI u3 ?_
    clear u3 K3
    refine sC h2 q2hx ?_
    refine kR q2hx fun K3 u3=>?_
    refine tI ?_
    refine sR q2hx ?_
    exact aR
   ·have hne:¬ (i:Int)=(n:Int):=by omega
    obtain⟨k,hk⟩:∃ k,n - i=k+1:=⟨n - i - 1,by omega⟩
    have hk':n - (i+1)=k:=by omega
    rw [hk] at r1 r2 r3
    simp only [refStepsE,if_neg hbig,ho,if_true] at r1 r2 r3
    generalize stepE p e=r at *
    obtain⟨x,o⟩:=r
    simp only at ho r1 r2 r3
    subst ho
    refine sK fun K3 u3=>?_
    (refine sQ q2hx fun K z=>?_;refine ev1 hbig ?_;refine⟨_,.inl ⟨_,rfl,hc,rfl⟩,?_⟩;(try refine ev1 hbig ?_);apply z;clear z K)
    refine kI u3 ?_
    clear u3 K3
    refine sC h2 q2hx ?_
    refine kR1 hne q2hx fun K3 u3=>?_
    refine kI u3 ?_
    clear u3 K3
    (refine lV q2hx fun K z=>?_;apply z;clear z K;try simp only [thenA,blockA,if_true])
    refine u2 _ _ ?_
    clear u2 K2
    (refine lV q2hx fun K z=>?_;refine cl ?_;apply z;clear z K;try simp only [thenA,blockA,if_true])
    exact⟨(i+1,x),⟨by simp only;omega,by simp only;rw [hk'];exact r1,by simp only;rw [hk'];omega,by simp only;rw [hk'];exact r3⟩,by simp only;omega,sS,by simp [ble,bget,exS,prC]⟩
  ·have hst:refStepsE p (n - i) e=(e,0,(stepE p e).2,true):=by
    cases n - i with
    | zero=>rw [refStepsE,if_neg hbig]
    | succ k=>rw [refStepsE,if_neg hbig,if_neg ho]
   rw [hst] at r1 r2 r3
   have hR':R=(e,(i:Int),(stepE p e).2,true):=by
    obtain⟨a,b,c,d⟩:=R
    simp only [Prod.mk.injEq] at r1 r2 r3
    rw [← r1,← r2,← r3.1,← r3.2];simp
   rw [hR']
   simp only
   generalize stepE p e=r at *
   obtain⟨x,o⟩:=r
   simp only at ho ⊢
   refine sK fun K3 u3=>?_
   (refine sQ q2hx fun K z=>?_;refine ev1 hbig ?_;refine⟨_,.inl ⟨_,rfl,hc,rfl⟩,?_⟩;(try refine ev1 hbig ?_);apply z;clear z K)
   refine kI u3 ?_
   clear u3 K3
   refine sC h2 q2hx ?_
   refine kR1 ho q2hx fun K3 u3=>?_
   refine tI ?_
   refine sR q2hx ?_
   exact aR
theorem refSteps_steps {p:Prog}:∀ {n:Nat} {e:Ex},(refStepsE p n e).2.2.2=true→StepsSm p n e∧refStepsE p n e=((stepsE p n e).1,(stepsE p n e).2.1,(stepsE p n e).2.2,true)
 | 0,e,h=>by
  rw [refStepsE] at h ⊢
  by_cases hc:e.count 0 > 400
  ·rw [if_pos hc] at h;simp at h
  ·rw [if_neg hc,stepsE]
   exact⟨Ex.count_sm e 0 (by decide) (by omega),rfl⟩
 | n+1,e,h=>by
  rw [refStepsE] at h ⊢
  by_cases hc:e.count 0 > 400
  ·rw [if_pos hc] at h;simp at h
  ·rw [if_neg hc] at h ⊢
   rw [stepsE]
   have hsm:e.Sm:=Ex.count_sm e 0 (by decide) (by omega)
   by_cases ho:(stepE p e).2=1
   ·rw [if_pos ho] at h ⊢
    obtain⟨h1,h2⟩:=refSteps_steps (n:=n) h
    rw [if_pos ho,h2]
    exact⟨⟨hsm,fun _=>h1⟩,rfl⟩
   ·rw [if_neg ho,if_neg ho]
    exact⟨⟨hsm,fun h=>absurd h ho⟩,rfl⟩
theorem stepsE_halt {p:Prog} {e:Ex} (ho:(stepE p e).2≠1):∀ n,stepsE p n e=(e,0,(stepE p e).2)
 | 0=>rfl
 | n+1=>by rw [stepsE,if_neg ho]
def r0:Ty:=.mk [] [] 0
def rT:Ty:=.mk [84] [] 0
def rB:Ty:=.mk [66] [] 0
def rt:Ex:=.mk 3 [] rT [] [] 0
def rb:Ex:=.mk 3 [] rB [] [rt] 0
def rs:Ex:=.mk 4 [118] r0 [] [rb] 0
def ru:Ex:=.mk 1 [120] r0 [] [] 0
def ra:Ex:=.mk 5 [] rB [] [rt] 0
def rEx:Ex:=.mk 0 [] r0 [] [] 0
def rSig:Sig:=⟨[],[],[],r0,0⟩
def rP:Prog:=⟨[⟨1,[84],[],[],[],[],[],rSig,rEx,0⟩,⟨1,[66],[],[⟨[118],rT,0⟩],[],[],[],rSig,rEx,0⟩],rEx⟩
theorem rx_sm (e:Ex)(h:e.count 0≤2000):e.Sm:=Ex.count_sm e 0 (by decide) h
theorem w1:stepE rP rs=(rt,1):=by
 have hL:stepL rP rs.kids=none:=by rfl
 rw [stepE_eq,hL]
 simp only
 unfold redexE
 rw [if_neg (by decide),show rs.kids[0]? = some rb from rfl]
 simp only
 rw [if_neg (by decide),if_pos (by decide)]
 unfold selE
 rw [if_pos (by decide +kernel)]
 rfl
theorem w2:stepE rP rt=(rt,2):=by
 rw [stepE_eq,show stepL rP rt.kids=none by rfl]
 simp only
 unfold redexE
 rw [if_pos (by decide)]
theorem w3:stepE rP ru=(ru,4):=by
 rw [stepE_eq,show stepL rP ru.kids=none by rfl]
 simp only
 unfold redexE
 rw [if_neg (by decide),show ru.kids[0]? = none from rfl]
theorem stepsSm_last {p:Prog}:∀ {n:Nat} {e:Ex},StepsSm p n e→(stepsE p n e).1.Sm
 | 0,_,h=>h
 | n+1,e,h=>by
  rw [stepsE]
  by_cases ho:(stepE p e).2=1
  ·rw [if_pos ho];exact stepsSm_last (h.2 ho)
  ·rw [if_neg ho];exact h.1
theorem stepsE_cnt (p:Prog):∀ (n:Nat)(e:Ex),0≤(stepsE p n e).2.1∧(stepsE p n e).2.1≤n
 | 0,_=>by simp [stepsE]
 | n+1,e=>by
  rw [stepsE]
  have:=stepsE_cnt p n (stepE p e).1
  by_cases ho:(stepE p e).2=1
  ·rw [if_pos ho];simp only;omega
  ·rw [if_neg ho];simp only;omega
theorem u8_wf {i:Int} (hi:(Lit.int .u8 i).wf=true):0≤i∧i≤255:=by simp [Lit.wf] at hi;exact hi
end Go.Abs
