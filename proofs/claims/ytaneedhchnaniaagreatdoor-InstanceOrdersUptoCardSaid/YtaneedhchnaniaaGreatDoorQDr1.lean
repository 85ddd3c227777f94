/- the tape is never asked less: every step of the machine draws at least nothing -/
import Derived.Calls
import Derived.RunT
namespace Go.Abs
set_option maxHeartbeats 1000000
set_option linter.unusedSimpArgs false
set_option linter.unusedVariables false
open Go
set_option maxRecDepth 100000
set_option maxHeartbeats 2000000
def RLe {α:Type} (d:Nat):Result α→Prop
 | .ok _ w=>d≤w.drawn
 | .halt _ w=>d≤w.drawn
def GLe (d:Nat):GStep→Prop
 | .go _ w _ | .comm _ _ _ _ w _ | .spawn _ _ w _ | .count _ w _ | .timer _ _ w _ | .alone _ _ w _ | .newcoro _ _ _ w _ | .coroswitch _ _ _ w _ | .collect _ w _ | .watch _ w _=>d≤w.drawn
 | .ended ..=>True
def SLe (d:Nat):Stepped→Prop
 | .next m=>d≤m.world.drawn
 | .ended ..=>True
theorem ask_le {α:Type}:∀ (x:Ask α)(w:World),w.drawn≤(w.ask x).2.drawn
 | .done a,w=>Nat.le_refl _
 | .ask what range k,w=>by
  rw [World.ask]
  split
  ·exact ask_le _ _
  ·exact Nat.le_trans (Nat.le_succ _) (ask_le (k _) { w with drawn:=w.drawn+1 })
theorem sys_le (w:World)(c:Sys):w.drawn≤(w.sys c).2.drawn:=by
 unfold World.sys
 have h:=ask_le (Kernel.perform c w.os) w
 split
 ·exact Nat.le_refl _
 ·rename_i r os w' _ he
  rw [he] at h
  exact h
theorem viewStore_le {p:Program} {w:World} {at_:Addr} {u:TypeId} {k:Addr} {v:Value} {a:Bool} {r:World × List Addr} (h:w.viewStore p at_ u k v a=.ok r):r.1.drawn=w.drawn:=by
 unfold World.viewStore at h
 simp only [bind,Except.bind,pure,Except.pure,throw,throwThe,MonadExceptOf.throw] at h
 repeat' (split at h)
 all_goals (first | (cases h;done) | (cases h;rfl) | skip)
theorem farStore_le {p:Program} {w:World} {a:Addr} {v:Value} {b:Bool} {r:World × List Addr} (h:w.farStore p a v b=.ok r):r.1.drawn=w.drawn:=by
 unfold World.farStore at h
 split at h
 ·split at h
  ·rename_i r' hr;cases h;exact viewStore_le hr
  ·cases h
 ·cases h
theorem runT_le {α:Type} (p:Program):∀ (s:Sem α)(w:World)(es:Array Event),RLe w.drawn (s.runT p w es).1:=by
 intro s
 induction s with
 | pure a=>intro w es;exact Nat.le_refl _
 | load m a k ih =>
  intro w es
  rw [Sem.runT]
  split
  ·exact ih _ _ _
  ·split
   ·exact ih _ _ _
   ·exact Nat.le_refl _
 | store m a v k ih =>
  intro w es
  have key:∀ r:Result α × Array Event,(r=(Result.halt (.stuck "store: not the value of one cell") w,es) ∨
    ((∃ es',r=k.runT p (w.setCell a v) es')∨(∃ w' es',w'.drawn=w.drawn∧r=k.runT p w' es')∨∃ h,r=(Result.halt h w,es)))→RLe w.drawn r.1:=by
   rintro r (rfl | ⟨es',rfl⟩ | ⟨w',es',h,rfl⟩ | ⟨h,rfl⟩)
   ·exact Nat.le_refl _
   ·exact ih (w.setCell a v) _
   ·have:=ih w' es'
    rw [h] at this;exact this
   ·exact Nat.le_refl _
  refine key _ ?_
  cases v <;> first | exact .inl rfl | (
   refine .inr ?_
   rw [Sem.runT]
   ·split
    ·split
     ·exact .inr (.inr ⟨_,rfl⟩)
     ·exact .inl ⟨_,rfl⟩
    ·split
     ·rename_i he
      exact .inr (.inl ⟨_,_,farStore_le he,rfl⟩)
     ·exact .inr (.inr ⟨_,rfl⟩)
   all_goals (intro _ h;cases h))
 | new o k ih=>intro w es;exact ih _ { w with heap:=w.heap.push o } _
 | shape r k ih=>intro w es;exact ih _ _ _
 | freeze a n k ih =>
  intro w es
  have h:(w.freeze a n).drawn=w.drawn:=by unfold World.freeze;split <;> rfl
  have:=ih (w.freeze a n) es
  rw [h] at this
  exact this
 | frozen a k ih=>intro w es;exact ih _ _ _
 | getObj r k ih =>
  intro w es
  rw [Sem.runT]
  split
  ·exact Nat.le_refl _
  ·exact ih _ _ _
  ·exact Nat.le_refl _
 | setObj r o k ih =>
  intro w es
  rw [Sem.runT]
  split
  ·exact Nat.le_refl _
  ·exact ih { w with heap:=w.heap.setIfInBounds r o } _
  ·exact Nat.le_refl _
 | choose q k ih =>
  intro w es
  rw [Sem.runT]
  split
  ·exact ih _ _ _
  ·have:=ih (q.cut (w.tape w.drawn q)) { w with drawn:=w.drawn+1 } es
   revert this
   generalize ((k (q.cut (w.tape w.drawn q))).runT p { w with drawn:=w.drawn+1 } es).1=r
   cases r <;> (simp only [RLe];omega)
 | sys c k ih =>
  intro w es
  rw [Sem.runT]
  have h1:=sys_le w c
  have:=ih (w.sys c).1 (w.sys c).2 (es.push ⟨.output,true,false⟩)
  revert this
  generalize ((k (w.sys c).1).runT p (w.sys c).2 (es.push ⟨.output,true,false⟩)).1=r
  cases r <;> (simp only [RLe];omega)
 | program k ih=>intro w es;exact ih _ _ _
 | mark m k ih=>intro w es;exact ih _ _
 | halt h=>intro w es;exact Nat.le_refl _
theorem run_le {α:Type} (p:Program)(s:Sem α)(w:World):RLe w.drawn (s.run p w):=by
 have:=runT_le p s w #[]
 rwa [Sem.runT_fst] at this
theorem ok_le {α:Type} {p:Program} {s:Sem α} {w w':World} {a:α} (h:s.run p w=.ok a w'):w.drawn≤w'.drawn:=by
 have:=run_le p s w;rw [h] at this;exact this
theorem halt_le {α:Type} {p:Program} {s:Sem α} {w w':World} {a:Halt} (h:s.run p w=.halt a w'):w.drawn≤w'.drawn:=by
 have:=run_le p s w;rw [h] at this;exact this
theorem okT_le {α:Type} {p:Program} {s:Sem α} {w w':World} {a:α} {es es':Array Event} (h:s.runT p w es=(.ok a w',es')):w.drawn≤w'.drawn:=by
 have:=runT_le p s w es;rw [h] at this;exact this
theorem haltT_le {α:Type} {p:Program} {s:Sem α} {w w':World} {a:Halt} {es es':Array Event} (h:s.runT p w es=(.halt a w',es')):w.drawn≤w'.drawn:=by
 have:=runT_le p s w es;rw [h] at this;exact this
theorem GLe.mono {d d':Nat} (h:d≤d'):∀ {g:GStep},GLe d' g→GLe d g:=by
 intro g;cases g <;> simp only [GLe] <;> first | exact Nat.le_trans h | exact fun _=>trivial
theorem after_le {d:Nat} {es:Array Event} {g:GStep} (h:GLe d g):GLe d (GStep.after es g):=by
 cases g <;> exact h
theorem endWith_le (d:Nat)(w:World)(fd:Nat)(t:ByteArray)(o:Outcome):GLe d (endWith w fd t o):=by
 unfold endWith
 simp only
 repeat' split
 all_goals trivial
theorem dieOf_le (fr:Frame)(a:List ByteArray)(m:String)(b:Bool)(w:World):GLe w.drawn (dieOf fr a m b w):=Nat.le_refl _
theorem endThrow_le (fr:Frame)(m:String)(w:World):GLe w.drawn (endThrow fr m w):=Nat.le_refl _
theorem endPrinting_le (p:Program)(fr:Frame)(v:Value)(w:World):GLe w.drawn (endPrinting p fr v w):=by
 unfold endPrinting
 simp only
 split
 ·exact endThrow_le _ _ _
 ·trivial
theorem endFatal_le (p:Program)(fr:Frame)(cs:List Frame)(dy:Option Dying)(m:String)(w:World):GLe w.drawn (endFatal p fr cs dy m w):=by
 unfold endFatal
 simp only
 split
 ·rename_i he
  exact (dieOf_le _ _ _ _ _).mono (ok_le he)
 ·trivial
 ·trivial
theorem writeOn_le (p:Program)(fr:Frame)(d:Dying)(f:Fatal)(w:World):GLe w.drawn (writeOn p fr d f w):=by
 unfold writeOn
 simp only
 split
 ·trivial
 ·split
  ·rename_i he;exact okT_le he
  ·rename_i he;exact haltT_le he
  ·trivial
  ·trivial
theorem die_le (p:Program)(fr:Frame)(d:Dying)(w:World):GLe w.drawn (die p fr d w):=by
 unfold die
 split
 ·exact writeOn_le _ _ _ _ _
 ·split
  ·split
   ·exact Nat.le_refl _
   ·exact endWith_le _ _ _ _ _
  ·simp only
   split
   ·exact Nat.le_refl _
   ·split
    ·rename_i he;exact ok_le he
    ·trivial
   ·refine after_le ?_
    split
    ·rename_i he;exact okT_le (Prod.ext he rfl)
    ·rename_i he;exact okT_le (Prod.ext he rfl)
    ·trivial
    ·rename_i he;exact (endPrinting_le _ _ _ _).mono (haltT_le (Prod.ext he rfl))
    ·trivial
   ·trivial
theorem doReturn_le (p:Program)(main:Bool)(fr:Frame)(cs:List Frame)(dy:Option Dying)(v:Value)(w:World):GLe w.drawn (doReturn p main fr cs dy v w):=by
 unfold doReturn
 split
 ·split <;> exact Nat.le_refl _
 ·split
  ·exact Nat.le_refl _
  ·trivial
  ·split
   ·exact Nat.le_refl _
   ·split
    ·exact Nat.le_refl _
    ·trivial
theorem gite_le {d:Nat} {c:Prop} [Decidable c] {a b:GStep} (ha:GLe d a)(hb:GLe d b):GLe d (if c then a else b):=by
 split
 ·exact ha
 ·exact hb
theorem callDeferred_le (p:Program)(fr:Frame)(cs:List Frame)(dy:Option Dying)(d:Deferred)(w:World):GLe w.drawn (callDeferred p fr cs dy d w):=by
 unfold callDeferred
 refine gite_le trivial ?_
 ·simp only
  have h:=runT_le p (invoke d.target d.args) w #[]
  generalize (invoke d.target d.args).runT p w #[]=re at h
  obtain⟨r,es⟩:=re
  refine after_le ?_
  simp only at h ⊢
  repeat' split
  all_goals first | exact h | trivial | exact (endFatal_le _ _ _ _ _ _).mono h | exact (endThrow_le _ _ _).mono h
theorem unwind_le (p:Program)(main:Bool)(fr:Frame)(cs:List Frame)(dy:Option Dying)(w:World):GLe w.drawn (unwind p main fr cs dy w):=by
 unfold unwind
 split
 ·refine after_le ?_
  split
  ·rename_i he;exact okT_le (Prod.ext he rfl)
  ·trivial
 ·exact callDeferred_le _ _ _ _ _ _
 ·split
  ·trivial
  ·split
   ·trivial
   ·split
    ·exact Nat.le_refl _
    ·split
     ·split
      ·exact Nat.le_refl _
      ·split
       ·rename_i he;exact ok_le he
       ·trivial
       ·trivial
     ·split
      ·exact endPrinting_le _ _ _ _
      ·trivial
  ·split
   ·exact doReturn_le _ _ _ _ _ _ _
   ·refine after_le ?_
    split
    ·rename_i he;exact (doReturn_le _ _ _ _ _ _ _).mono (okT_le (Prod.ext he rfl))
    ·trivial
    ·trivial
theorem early_le (p:Program)(fr:Frame)(cs:List Frame)(dy:Option Dying)(g:Nat)(w:World):GLe w.drawn (early p fr cs dy g w):=by
 unfold early
 simp only
 have hn:∀ w':World,w.drawn≤w'.drawn→GLe w.drawn (match w'.heap[g]? with
  | some (.pending c elem)=>GStep.go { frame:=fr,callers:=cs,status:=.running,dying:=dy } { w' with heap:=w'.heap.setIfInBounds g (.cells c elem) } #[]
  | _=>.ended (.stuck "early: the variable does not wait" (fr.pos p)) w' #[]):=fun w' h=>by
  split
  ·exact h
  ·trivial
 refine gite_le (hn _ (Nat.le_refl _)) ?_
 split
 ·trivial
 ·refine gite_le (hn _ (Nat.le_refl _)) (gite_le (hn _ (Nat.le_refl _)) ?_)
  split
  ·trivial
  ·exact Nat.le_refl _
  ·trivial
  ·exact hn _ (Nat.le_refl _)
  ·refine gite_le (Nat.le_refl _) (gite_le (hn _ (Nat.le_refl _)) ?_)
   split
   ·rename_i he;exact hn _ (ok_le he)
   ·rename_i he;exact ok_le he
   ·trivial
theorem apply_le (p:Program)(ls:Bool)(fr:Frame)(cs:List Frame)(dy:Option Dying)(s:Sem Next)(w:World):GLe w.drawn (stepG.apply p ls fr cs dy s w):=by
 unfold stepG.apply
 simp only
 have h:RLe w.drawn (if ls then s.runT p w #[] else (s.run p w,#[])).1:=by
  split
  ·exact runT_le p s w #[]
  ·exact run_le p s w
 generalize (if ls then s.runT p w #[] else (s.run p w,#[]))=re at h
 obtain⟨r,es⟩:=re
 refine after_le ?_
 simp only at h ⊢
 split
 all_goals first
  | exact h
  | trivial
  | exact (endFatal_le _ _ _ _ _ _).mono h
  | exact (endThrow_le _ _ _).mono h
  | exact (early_le _ _ _ _ _ _).mono h
  | (refine gite_le ((endThrow_le _ _ _).mono h) h;done)
  | (split <;> exact h)
theorem oper_le (p:Program)(ls:Bool)(fr:Frame)(cs:List Frame)(dy:Option Dying)(w:World):GLe w.drawn (stepG.oper p ls fr cs dy w):=by
 unfold stepG.oper
 split
 ·trivial
 ·split <;> exact apply_le _ _ _ _ _ _ _
theorem exec_le (p:Program)(main ls:Bool)(fr:Frame)(cs:List Frame)(dy:Option Dying)(w:World):GLe w.drawn (stepG.exec p main ls fr cs dy w):=by
 unfold stepG.exec
 simp only
 split
 all_goals (try unfold Option.elim)
 all_goals (repeat' (first
  | exact apply_le _ _ _ _ _ _ _
  | exact oper_le _ _ _ _ _ _
  | (rename_i he;exact (apply_le _ _ _ _ _ _ _).mono (okT_le (Prod.ext he rfl)))
  | (rename_i he;exact (doReturn_le _ _ _ _ _ _ _).mono (okT_le (Prod.ext he rfl)))
  | (rename_i he;exact ok_le he)
  | (rename_i he;exact okT_le (Prod.ext he rfl))
  | (rename_i he;exact haltT_le (Prod.ext he rfl))
  | exact Nat.le_refl _
  | trivial
  | refine after_le ?_
  | split))
theorem stepG_le (p:Program)(main:Bool)(g:Goroutine)(w:World)(ls:Bool):GLe w.drawn (stepG p main g w ls):=by
 unfold stepG
 simp only
 split
 ·exact die_le _ _ _ _
 ·exact exec_le _ _ _ _ _ _ _
 ·exact unwind_le _ _ _ _ _ _
theorem SLe.mono {d d':Nat} (h:d≤d'):∀ {g:Stepped},SLe d' g→SLe d g:=by
 intro g;cases g <;> simp only [SLe] <;> first | exact Nat.le_trans h | exact fun _=>trivial
theorem waitingAt_le {rest:Rest} {cs:Array CommCase} {w w':World} (h:waitingAt rest cs w=some w'):w'.drawn=w.drawn:=by
 unfold waitingAt at h
 split at h
 ·split at h
  ·cases h;rfl
  ·cases h
 ·cases h;rfl
theorem communicate_le (p:Program)(rest:Rest)(gs:Array Goroutine)(i:Nat)(g:Goroutine)(cases:Array CommCase)(b:Bool)(sh:CommShape)(w:World):SLe w.drawn (communicate p rest gs i g cases b sh w).1:=by
 unfold communicate
 simp only
 repeat' (first
  | exact Nat.le_refl _
  | trivial
  | (rename_i he;exact Nat.le_of_eq (waitingAt_le he).symm)
  | (rename_i he;exact ok_le he)
  | (have h1:=ok_le (p:=p) (w:=w) (by assumption);exact h1)
  | (have h1:=ok_le (p:=p) (w:=w) (by assumption);have h2:=halt_le (p:=p) (by assumption);exact Nat.le_trans h1 h2)
  | (have h1:=ok_le (p:=p) (w:=w) (by assumption);have h2:=ok_le (p:=p) (by assumption);exact Nat.le_trans h1 h2)
  | split)
theorem look_le (p:Program)(gs:Array Goroutine)(rest:Rest)(w:World):SLe w.drawn (look p gs rest w):=by
 unfold look
 split
 ·simp only
  split
  ·trivial
  ·split
   ·trivial
   ·split
    ·rename_i he;have h1:=ok_le (p:=p) (w:=w) he;exact h1
    ·trivial
    ·trivial
 ·trivial
theorem drain_le (w:World)(c:Nat):(drain w c).2.drawn=w.drawn:=by
 unfold drain;split <;> rfl
theorem timerOp_le {m:Machine} {op:TimerOp} {r:Value × Machine} (h:timerOp m op=.ok r):r.2.world.drawn=m.world.drawn:=by
 have hret:∀ (m:Machine) k t a b,(retime m k t a b).2.world.drawn=m.world.drawn:=fun m k t a b=>by
  unfold retime
  cases t.chan with
  | none=>rfl
  | some c=>exact drain_le m.world c
 have hnm:∀ (m1:Machine) var f,(∀ k t,(f k t).2.world.drawn=m.world.drawn)→∀ r,timerOp.named m1 var f=.ok r→r.2.world.drawn=m.world.drawn:=fun m1 var f hf r hr=>by
  unfold timerOp.named at hr
  split at hr
  ·cases hr;exact hf _ _
  ·cases hr
 unfold timerOp at h
 split at h
 ·split at h
  ·cases h;rfl
  ·split at h
   ·split at h
    ·cases h
    ·cases h;rfl
   ·cases h
 ·exact hnm _ _ _ (fun _ _=>hret _ _ _ _ _) _ h
 ·split at h
  ·rename_i m1 he
   have h1:m1.world.drawn=m.world.drawn:=by
    unfold timerOp.opened at he
    split at he
    ·split at he
     ·cases he;rfl
     ·cases he
    ·cases he;rfl
   exact hnm _ _ _ (fun _ _=>(hret _ _ _ _ _).trans h1) _ h
  ·cases h
 ·cases h;rfl
theorem serve_le (p:Program)(m:Machine)(k:Nat):SLe m.world.drawn (serve p m k):=by
 unfold serve
 simp only
 repeat' (first
  | exact Nat.le_refl _
  | trivial
  | split)
theorem runM_le (p:Program)(m:Machine)(i:Nat)(ls:Bool):SLe m.world.drawn (Go.runT p m i ls).1:=by
 unfold Go.runT
 simp only
 have h:=stepG_le p (i == 0) (m.gs.swapAt! i { (default:Goroutine) with status:=.finished }).1 m.world ls
 generalize stepG p (i == 0) (m.gs.swapAt! i { (default:Goroutine) with status:=.finished }).1 m.world ls=s at h
 cases s with
 | ended o w es=>trivial
 | comm g cases b sh w es=>exact (communicate_le _ _ _ _ _ _ _ _ _).mono h
 | go g w es=>exact h
 | spawn g c w es=>exact h
 | count g w es =>
  simp only
  split
  ·trivial
  ·exact h
 | alone g on w es=>exact h
 | collect g w es=>exact (look_le _ _ _ _).mono h
 | watch g w es=>exact h
 | newcoro g c d w es=>exact h
 | coroswitch g c e w es =>
  simp only
  split
  ·exact h
  ·exact h
  ·trivial
 | timer g op w es =>
  simp only
  split
  ·rename_i v m' he
   have h1:=timerOp_le he
   simp only at h1
   exact Nat.le_trans h (Nat.le_of_eq h1.symm)
  ·exact h
  ·trivial
  ·trivial
def MLe (d:Nat):Move→Prop
 | .goroutine m _=>d≤m.world.drawn
 | .machine s _=>SLe d s
theorem MLe.mono {d d':Nat} (h:d≤d'):∀ {g:Move},MLe d' g→MLe d g:=by
 intro g;cases g <;> simp only [MLe]
 ·exact Nat.le_trans h
 ·exact SLe.mono h
theorem askOn_le (p:Program)(m:Machine):MLe m.world.drawn (askOn p m):=by
 unfold askOn
 extract_lets mono rs ds pick
 have hp:∀ m':Machine,MLe m'.world.drawn (pick m'):=fun m'=>by
  simp only [pick]
  split
  ·trivial
  ·rename_i h1
   have h1:=ok_le (p:=p) h1
   split
   ·exact h1
   ·split
    ·trivial
    ·rename_i h2
     have h2:=ok_le (p:=p) h2
     exact Nat.le_trans h1 h2
 clear_value pick
 split
 ·trivial
 ·rename_i k w1 g1
  have h1:=ok_le (p:=p) g1
  clear g1
  extract_lets m1
  have hm1:m.world.drawn≤m1.world.drawn:=h1
  clear_value m1 rs
  split
  ·exact (serve_le p m1 _).mono hm1
  ·cases rs with
   | nil =>
    simp only
    split
    ·exact hm1
    ·split
     ·exact hm1
     ·split <;> trivial
   | cons r rs =>
    simp only
    split
    ·exact (hp m1).mono hm1
    ·split
     ·trivial
     ·rename_i h2
      have h2:=ok_le (p:=p) h2
      exact (hp _).mono (Nat.le_trans h1 h2)
     ·rename_i h2
      have h2:=ok_le (p:=p) h2
      exact Nat.le_trans h1 h2
     ·rename_i h2
      have h2:=ok_le (p:=p) h2
      exact (hp _).mono (Nat.le_trans h1 h2)
theorem ask_le' (p:Program)(m:Machine):MLe m.world.drawn (ask p m):=by
 unfold ask
 split
 ·split
  ·trivial
  ·rename_i he
   have h1:=ok_le (p:=p) he
   have h2:=look_le p m.gs m.rest
   split
   ·rename_i m' hm
    have h3:=h2 _ |>.mono h1
    rw [hm] at h3
    exact (askOn_le p m').mono h3
   ·have h3:=h2 _ |>.mono h1
    exact h3
  ·rename_i he
   have h1:=ok_le (p:=p) he
   exact (askOn_le p _).mono h1
 ·exact askOn_le _ _
theorem move_le (p:Program)(m:Machine):MLe m.world.drawn (move p m):=by
 unfold move
 split
 ·split
  ·exact Nat.le_refl _
  ·trivial
 ·split
  ·split
   ·exact Nat.le_refl _
   ·exact ask_le' p { m with rest:={ m.rest with slice:=none } }
  ·exact ask_le' _ _
theorem step_le (p:Program)(m:Machine):SLe m.world.drawn (step p m):=by
 unfold step stepT
 have h:=move_le p m
 generalize move p m=mv at h
 cases mv with
 | goroutine m' i=>exact (runM_le p m' i true).mono h
 | machine s ops=>exact h
theorem runN_le (p:Program):∀ (n:Nat)(m:Machine),SLe m.world.drawn (runN p n m)
 | 0,m=>Nat.le_refl _
 | n+1,m=>by
  rw [runN]
  have h:=step_le p m
  split
  ·rename_i m' he
   rw [he] at h
   exact (runN_le p n m').mono h
  ·rename_i he
   cases hs:step p m with
   | next m'=>exact (he m' hs).elim
   | ended o w=>trivial
theorem Calls.drawn {P:Program} {f:FuncId} {args:Array Value} {w:World} {R:Ending→World→Prop} (h:Calls P f args w R):Calls P f args w fun e w'=>R e w'∧((∃ v,e=.returned v)→w.drawn≤w'.drawn):=fun cs=>by
 obtain⟨e,w',fr,h1,h2,h3⟩:=h cs
 refine⟨e,w',fr,⟨h1,?_⟩,h2,h3⟩
 rintro⟨v,rfl⟩
 obtain⟨n,hn⟩:=h2
 have:=runN_le P n (lone (Frame.enter P f args .normal) cs w)
 rw [hn] at this
 exact this
end Go.Abs
