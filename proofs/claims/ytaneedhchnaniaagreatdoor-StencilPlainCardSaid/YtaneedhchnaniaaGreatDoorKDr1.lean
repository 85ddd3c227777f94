/- the tape is never asked less: every step of the machine draws at least nothing -/
import Derived.Calls
import Derived.RunT
namespace Go.Abs
set_option maxHeartbeats 2000000
set_option linter.all false
open Go
set_option maxRecDepth 100000
def RLe {α:Type} (d:Nat):Result α→Prop
 |.ok _ w=>d≤w.drawn
 |.halt _ w=>d≤w.drawn
def Iw (d:Nat):GStep→Prop
 |.go _ w _| .comm _ _ _ _ w _| .spawn _ _ w _| .count _ w _| .timer _ _ w _| .alone _ _ w _| .newcoro _ _ _ w _| .coroswitch _ _ _ w _| .collect _ w _| .watch _ w _=>d≤w.drawn
 |.ended ..=>True
def U3 (d:Nat):Stepped→Prop
 |.next m=>d≤m.world.drawn
 |.ended ..=>True
theorem B8z {α:Type}:∀(x:Ask α)(w:World),w.drawn≤(w.ask x).2.drawn
 |.done a,w=>Nat.le_refl _
 |.ask I E k,w=>by
  rw [World.ask];split
  ·exact B8z _ _
  ·exact Nat.le_trans (Nat.le_succ _) (B8z (k _) { w with drawn:=w.drawn+1 })
theorem G0x (w:World)(c:Sys):w.drawn≤(w.sys c).2.drawn:=by
 unfold World.sys;have h:=B8z (Kernel.perform c w.os) w;split
 ·exact Nat.le_refl _
 ·rename_i r os w' _ E;rw [E] at h;exact h
theorem F0i {p:Program} {w:World} {at_:Addr} {u:TypeId} {k:Addr} {v:Value} {a:Bool} {r:World × List Addr} (h:w.viewStore p at_ u k v a=.ok r):r.1.drawn=w.drawn:=by
 unfold World.viewStore at h;simp only [bind,Except.bind,pure,Except.pure,throw,throwThe,MonadExceptOf.throw] at h
 repeat' (split at h)
 all_goals (first| (cases h;done)| (cases h;rfl)| skip)
theorem G0b {p:Program} {w:World} {a:Addr} {v:Value} {b:Bool} {r:World × List Addr} (h:w.farStore p a v b=.ok r):r.1.drawn=w.drawn:=by
 unfold World.farStore at h;split at h
 ·split at h
  ·rename_i E hr;cases h;exact F0i hr
  ·cases h
 ·cases h
theorem B0c {α:Type} (p:Program):∀(s:Sem α)(w:World)(I:Array Event),RLe w.drawn (s.runT p w I).1:=by
 intro s
 induction s with
 |pure a=>intro w I;exact Nat.le_refl _
 |load m a k E =>
  intro w I;rw [Sem.runT];split
  ·exact E _ _ _
  ·split
   ·exact E _ _ _
   ·exact Nat.le_refl _
 |store m a v k E =>
  intro w I
  have key:∀r:Result α × Array Event,(r=(Result.halt (.stuck "store: not the value of one cell") w,I) ∨
    ((∃J,r=k.runT p (w.setCell a v) J)∨(∃w' J,w'.drawn=w.drawn∧r=k.runT p w' J)∨∃h,r=(Result.halt h w,I)))→RLe w.drawn r.1:=by
   rintro r (rfl| ⟨J,rfl⟩| ⟨w',J,h,rfl⟩| ⟨h,rfl⟩)
   ·exact Nat.le_refl _
   ·exact E (w.setCell a v) _
   ·have:=E w' J;rw [h] at this;exact this
   ·exact Nat.le_refl _
  refine key _ ?_;cases v <;> first| exact .inl rfl| (
   refine .inr ?_;rw [Sem.runT]
   ·split
    ·split
     ·exact .inr (.inr ⟨_,rfl⟩)
     ·exact .inl ⟨_,rfl⟩
    ·split
     ·rename_i L;exact .inr (.inl ⟨_,_,G0b L,rfl⟩)
     ·exact .inr (.inr ⟨_,rfl⟩)
   all_goals (intro _ h;cases h))
 |new o k E=>intro w I;exact E _ { w with heap:=w.heap.push o } _
 |shape r k E=>intro w I;exact E _ _ _
 |freeze a n k E =>
  intro w I;have h:(w.freeze a n).drawn=w.drawn:=by unfold World.freeze;split <;> rfl
  have:=E (w.freeze a n) I;rw [h] at this;exact this
 |frozen a k E=>intro w I;exact E _ _ _
 |getObj r k E =>
  intro w I;rw [Sem.runT];split
  ·exact Nat.le_refl _
  ·exact E _ _ _
  ·exact Nat.le_refl _
 |setObj r o k E =>
  intro w I;rw [Sem.runT];split
  ·exact Nat.le_refl _
  ·exact E { w with heap:=w.heap.setIfInBounds r o } _
  ·exact Nat.le_refl _
 |choose q k E =>
  intro w I;rw [Sem.runT];split
  ·exact E _ _ _
  ·have:=E (q.cut (w.tape w.drawn q)) { w with drawn:=w.drawn+1 } I;revert this;generalize ((k (q.cut (w.tape w.drawn q))).runT p { w with drawn:=w.drawn+1 } I).1=r;cases r <;> (simp only [RLe];omega)
 |sys c k E =>intro w I;rw [Sem.runT];have O:=G0x w c;have:=E (w.sys c).1 (w.sys c).2 (I.push ⟨.output,true,false⟩);revert this;generalize ((k (w.sys c).1).runT p (w.sys c).2 (I.push ⟨.output,true,false⟩)).1=r;cases r <;> (simp only [RLe];omega)
 |program k E=>intro w I;exact E _ _ _
 |mark m k E=>intro w I;exact E _ _
 |halt h=>intro w I;exact Nat.le_refl _
theorem C2k {α:Type} (p:Program)(s:Sem α)(w:World):RLe w.drawn (s.run p w):=by
 have:=B0c p s w #[]
 rwa [Sem.runT_fst] at this
theorem Lt {α:Type} {p:Program} {s:Sem α} {w w':World} {a:α} (h:s.run p w=.ok a w'):w.drawn≤w'.drawn:=by have:=C2k p s w;rw [h] at this;exact this
theorem G2i {α:Type} {p:Program} {s:Sem α} {w w':World} {a:Halt} (h:s.run p w=.halt a w'):w.drawn≤w'.drawn:=by have:=C2k p s w;rw [h] at this;exact this
theorem A0w {α:Type} {p:Program} {s:Sem α} {w w':World} {a:α} {I E:Array Event} (h:s.runT p w I=(.ok a w',E)):w.drawn≤w'.drawn:=by have:=B0c p s w I;rw [h] at this;exact this
theorem C0f {α:Type} {p:Program} {s:Sem α} {w w':World} {a:Halt} {I E:Array Event} (h:s.runT p w I=(.halt a w',E)):w.drawn≤w'.drawn:=by have:=B0c p s w I;rw [h] at this;exact this
theorem Iw.mono {d E:Nat} (h:d≤E):∀{g:GStep},Iw E g→Iw d g:=by intro g;cases g <;> simp only [Iw] <;> first| exact Nat.le_trans h| exact fun _=>trivial
theorem A8n {d:Nat} {E:Array Event} {g:GStep} (h:Iw d g):Iw d (GStep.after E g):=by cases g <;> exact h
theorem E5t (d:Nat)(w:World)(fd:Nat)(t:ByteArray)(o:Outcome):Iw d (endWith w fd t o):=by
 unfold endWith;simp only
 repeat' split
 all_goals trivial
theorem E9y (E:Frame)(a:List ByteArray)(m:String)(b:Bool)(w:World):Iw w.drawn (dieOf E a m b w):=Nat.le_refl _
theorem B5e (E:Frame)(m:String)(w:World):Iw w.drawn (endThrow E m w):=Nat.le_refl _
theorem D5p (p:Program)(E:Frame)(v:Value)(w:World):Iw w.drawn (endPrinting p E v w):=by
 unfold endPrinting;simp only;split
 ·exact B5e _ _ _
 ·trivial
theorem D3d (p:Program)(J:Frame)(cs:List Frame)(I:Option Dying)(m:String)(w:World):Iw w.drawn (endFatal p J cs I m w):=by
 unfold endFatal;simp only;split
 ·rename_i E;exact (E9y _ _ _ _ _).mono (Lt E)
 ·trivial
 ·trivial
theorem G3n (p:Program)(I:Frame)(d:Dying)(f:Fatal)(w:World):Iw w.drawn (writeOn p I d f w):=by
 unfold writeOn;simp only;split
 ·trivial
 ·split
  ·rename_i E;exact A0w E
  ·rename_i E;exact C0f E
  ·trivial
  ·trivial
theorem E5g (p:Program)(I:Frame)(d:Dying)(w:World):Iw w.drawn (die p I d w):=by
 unfold die;split
 ·exact G3n _ _ _ _ _
 ·split
  ·split
   ·exact Nat.le_refl _
   ·exact E5t _ _ _ _ _
  ·simp only;split
   ·exact Nat.le_refl _
   ·split
    ·rename_i E;exact Lt E
    ·trivial
   ·refine A8n ?_;split
    ·rename_i E;exact A0w (Prod.ext E rfl)
    ·rename_i E;exact A0w (Prod.ext E rfl)
    ·trivial
    ·rename_i E;exact (D5p _ _ _ _).mono (C0f (Prod.ext E rfl))
    ·trivial
   ·trivial
theorem C2q (p:Program)(main:Bool)(I:Frame)(cs:List Frame)(E:Option Dying)(v:Value)(w:World):Iw w.drawn (doReturn p main I cs E v w):=by
 unfold doReturn;split
 ·split <;> exact Nat.le_refl _
 ·split
  ·exact Nat.le_refl _
  ·trivial
  ·split
   ·exact Nat.le_refl _
   ·split
    ·exact Nat.le_refl _
    ·trivial
theorem A5a {d:Nat} {c:Prop} [Decidable c] {a b:GStep} (E:Iw d a)(I:Iw d b):Iw d (if c then a else b):=by
 split
 ·exact E
 ·exact I
theorem E9z (p:Program)(I:Frame)(cs:List Frame)(E:Option Dying)(d:Deferred)(w:World):Iw w.drawn (callDeferred p I cs E d w):=by
 unfold callDeferred;refine A5a trivial ?_
 ·simp only;have h:=B0c p (invoke d.target d.args) w #[];generalize (invoke d.target d.args).runT p w #[]=re at h;obtain⟨r,J⟩:=re;refine A8n ?_;simp only at h ⊢
  repeat' split
  all_goals first| exact h| trivial| exact (D3d _ _ _ _ _ _).mono h| exact (B5e _ _ _).mono h
theorem G5e (p:Program)(main:Bool)(J:Frame)(cs:List Frame)(I:Option Dying)(w:World):Iw w.drawn (unwind p main J cs I w):=by
 unfold unwind;split
 ·refine A8n ?_;split
  ·rename_i E;exact A0w (Prod.ext E rfl)
  ·trivial
 ·exact E9z _ _ _ _ _ _
 ·split
  ·trivial
  ·split
   ·trivial
   ·split
    ·exact Nat.le_refl _
    ·split
     ·split
      ·exact Nat.le_refl _
      ·split
       ·rename_i E;exact Lt E
       ·trivial
       ·trivial
     ·split
      ·exact D5p _ _ _ _
      ·trivial
  ·split
   ·exact C2q _ _ _ _ _ _ _
   ·refine A8n ?_;split
    ·rename_i E;exact (C2q _ _ _ _ _ _ _).mono (A0w (Prod.ext E rfl))
    ·trivial
    ·trivial
theorem G5m (p:Program)(J:Frame)(cs:List Frame)(O:Option Dying)(g:Nat)(w:World):Iw w.drawn (early p J cs O g w):=by
 unfold early;simp only;have E:∀w':World,w.drawn≤w'.drawn→Iw w.drawn (match w'.heap[g]? with
  |some (.pending c I)=>GStep.go { frame:=J,callers:=cs,status:=.running,dying:=O } { w' with heap:=w'.heap.setIfInBounds g (.cells c I) } #[]
  |_=>.ended (.stuck "early: the variable does not wait" (J.pos p)) w' #[]):=fun w' h=>by
  split
  ·exact h
  ·trivial
 refine A5a (E _ (Nat.le_refl _)) ?_;split
 ·trivial
 ·refine A5a (E _ (Nat.le_refl _)) (A5a (E _ (Nat.le_refl _)) ?_);split
  ·trivial
  ·exact Nat.le_refl _
  ·trivial
  ·exact E _ (Nat.le_refl _)
  ·refine A5a (Nat.le_refl _) (A5a (E _ (Nat.le_refl _)) ?_);split
   ·rename_i L;exact E _ (Lt L)
   ·rename_i L;exact Lt L
   ·trivial
theorem C2g (p:Program)(E:Bool)(J:Frame)(cs:List Frame)(I:Option Dying)(s:Sem Next)(w:World):Iw w.drawn (stepG.apply p E J cs I s w):=by
 unfold stepG.apply;simp only;have h:RLe w.drawn (if E then s.runT p w #[] else (s.run p w,#[])).1:=by
  split
  ·exact B0c p s w #[]
  ·exact C2k p s w
 generalize (if E then s.runT p w #[] else (s.run p w,#[]))=re at h;obtain⟨r,L⟩:=re;refine A8n ?_;simp only at h ⊢;split
 all_goals first
  |exact h
  |trivial
  |exact (D3d _ _ _ _ _ _).mono h
  |exact (B5e _ _ _).mono h
  |exact (G5m _ _ _ _ _ _).mono h
  |(refine A5a ((B5e _ _ _).mono h) h;done)
  |(split <;> exact h)
theorem F7s (p:Program)(E:Bool)(J:Frame)(cs:List Frame)(I:Option Dying)(w:World):Iw w.drawn (stepG.oper p E J cs I w):=by
 unfold stepG.oper;split
 ·trivial
 ·split <;> exact C2g _ _ _ _ _ _ _
theorem F1x (p:Program)(main I:Bool)(L:Frame)(cs:List Frame)(J:Option Dying)(w:World):Iw w.drawn (stepG.exec p main I L cs J w):=by
 unfold stepG.exec;simp only;split
 all_goals (try unfold Option.elim)
 all_goals (repeat' (first
  |exact C2g _ _ _ _ _ _ _
  |exact F7s _ _ _ _ _ _
  |(rename_i E;exact (C2g _ _ _ _ _ _ _).mono (A0w (Prod.ext E rfl)))
  |(rename_i E;exact (C2q _ _ _ _ _ _ _).mono (A0w (Prod.ext E rfl)))
  |(rename_i E;exact Lt E)
  |(rename_i E;exact A0w (Prod.ext E rfl))
  |(rename_i E;exact C0f (Prod.ext E rfl))
  |exact Nat.le_refl _
  |trivial
  |refine A8n ?_
  |split))
theorem E3q (p:Program)(main:Bool)(g:Goroutine)(w:World)(E:Bool):Iw w.drawn (stepG p main g w E):=by
 unfold stepG;simp only;split
 ·exact E5g _ _ _ _
 ·exact F1x _ _ _ _ _ _ _
 ·exact G5e _ _ _ _ _ _
theorem U3.mono {d E:Nat} (h:d≤E):∀{g:Stepped},U3 E g→U3 d g:=by intro g;cases g <;> simp only [U3] <;> first| exact Nat.le_trans h| exact fun _=>trivial
theorem F5n {rest:Rest} {cs:Array CommCase} {w w':World} (h:waitingAt rest cs w=some w'):w'.drawn=w.drawn:=by
 unfold waitingAt at h;split at h
 ·split at h
  ·cases h;rfl
  ·cases h
 ·cases h;rfl
theorem E7o (p:Program)(rest:Rest)(O:Array Goroutine)(i:Nat)(g:Goroutine)(cases:Array CommCase)(b:Bool)(L:CommShape)(w:World):U3 w.drawn (communicate p rest O i g cases b L w).1:=by
 unfold communicate;simp only
 repeat' (first
  |exact Nat.le_refl _
  |trivial
  |(rename_i J;exact Nat.le_of_eq (F5n J).symm)
  |(rename_i J;exact Lt J)
  |(have E:=Lt (p:=p) (w:=w) (by assumption);exact E)
  |(have E:=Lt (p:=p) (w:=w) (by assumption);have I:=G2i (p:=p) (by assumption);exact Nat.le_trans E I)
  |(have E:=Lt (p:=p) (w:=w) (by assumption);have I:=Lt (p:=p) (by assumption);exact Nat.le_trans E I)
  |split)
theorem C8v (p:Program)(I:Array Goroutine)(rest:Rest)(w:World):U3 w.drawn (look p I rest w):=by
 unfold look;split
 ·simp only;split
  ·trivial
  ·split
   ·trivial
   ·split
    ·rename_i E;have J:=Lt (p:=p) (w:=w) E;exact J
    ·trivial
    ·trivial
 ·trivial
theorem E6w (w:World)(c:Nat):(drain w c).2.drawn=w.drawn:=by unfold drain;split <;> rfl
theorem G4m {m:Machine} {op:TimerOp} {r:Value × Machine} (h:timerOp m op=.ok r):r.2.world.drawn=m.world.drawn:=by
 have E:∀(m:Machine) k t a b,(retime m k t a b).2.world.drawn=m.world.drawn:=fun m k t a b=>by
  unfold retime;cases t.chan with
  |none=>rfl
  |some c=>exact E6w m.world c
 have J:∀(L:Machine) var f,(∀k t,(f k t).2.world.drawn=m.world.drawn)→∀r,timerOp.named L var f=.ok r→r.2.world.drawn=m.world.drawn:=fun L var f O r hr=>by
  unfold timerOp.named at hr;split at hr
  ·cases hr;exact O _ _
  ·cases hr
 unfold timerOp at h;split at h
 ·split at h
  ·cases h;rfl
  ·split at h
   ·split at h
    ·cases h
    ·cases h;rfl
   ·cases h
 ·exact J _ _ _ (fun _ _=>E _ _ _ _ _) _ h
 ·split at h
  ·rename_i L I;have R:L.world.drawn=m.world.drawn:=by
    unfold timerOp.opened at I;split at I
    ·split at I
     ·cases I;rfl
     ·cases I
    ·cases I;rfl
   exact J _ _ _ (fun _ _=>(E _ _ _ _ _).trans R) _ h
  ·cases h
 ·cases h;rfl
theorem F3x (p:Program)(m:Machine)(k:Nat):U3 m.world.drawn (serve p m k):=by
 unfold serve;simp only
 repeat' (first
  |exact Nat.le_refl _
  |trivial
  |split)
theorem F2k (p:Program)(m:Machine)(i:Nat)(I:Bool):U3 m.world.drawn (Go.runT p m i I).1:=by
 unfold Go.runT;simp only;have h:=E3q p (i == 0) (m.gs.swapAt! i { (default:Goroutine) with status:=.finished }).1 m.world I;generalize stepG p (i == 0) (m.gs.swapAt! i { (default:Goroutine) with status:=.finished }).1 m.world I=s at h;cases s with
 |ended o w E=>trivial
 |comm g cases b sh w E=>exact (E7o _ _ _ _ _ _ _ _ _).mono h
 |go g w E=>exact h
 |spawn g c w E=>exact h
 |count g w E =>
  simp only;split
  ·trivial
  ·exact h
 |alone g on w E=>exact h
 |collect g w E=>exact (C8v _ _ _ _).mono h
 |watch g w E=>exact h
 |newcoro g c d w E=>exact h
 |coroswitch g c e w E =>
  simp only;split
  ·exact h
  ·exact h
  ·trivial
 |timer g op w E =>
  simp only;split
  ·rename_i v O L;have J:=G4m L;simp only at J;exact Nat.le_trans h (Nat.le_of_eq J.symm)
  ·exact h
  ·trivial
  ·trivial
def MLe (d:Nat):Move→Prop
 |.goroutine m _=>d≤m.world.drawn
 |.machine s _=>U3 d s
theorem MLe.mono {d E:Nat} (h:d≤E):∀{g:Move},MLe E g→MLe d g:=by
 intro g;cases g <;> simp only [MLe]
 ·exact Nat.le_trans h
 ·exact U3.mono h
theorem C1m (p:Program)(m:Machine):MLe m.world.drawn (askOn p m):=by
 unfold askOn
 extract_lets mono rs ds pick
 have L:∀O:Machine,MLe O.world.drawn (pick O):=fun O=>by
  simp only [pick];split
  ·trivial
  ·rename_i I;have I:=Lt (p:=p) I;split
   ·exact I
   ·split
    ·trivial
    ·rename_i E;have E:=Lt (p:=p) E;exact Nat.le_trans I E
 clear_value pick
 split
 ·trivial
 ·rename_i k U R;have I:=Lt (p:=p) R;clear R
  extract_lets m1
  have J:m.world.drawn≤m1.world.drawn:=I
  clear_value m1 rs
  split
  ·exact (F3x p m1 _).mono J
  ·cases rs with
   |nil =>
    simp only;split
    ·exact J
    ·split
     ·exact J
     ·split <;> trivial
   |cons r rs =>
    simp only;split
    ·exact (L m1).mono J
    ·split
     ·trivial
     ·rename_i E;have E:=Lt (p:=p) E;exact (L _).mono (Nat.le_trans I E)
     ·rename_i E;have E:=Lt (p:=p) E;exact Nat.le_trans I E
     ·rename_i E;have E:=Lt (p:=p) E;exact (L _).mono (Nat.le_trans I E)
theorem E3b (p:Program)(m:Machine):MLe m.world.drawn (ask p m):=by
 unfold ask;split
 ·split
  ·trivial
  ·rename_i J;have I:=Lt (p:=p) J;have L:=C8v p m.gs m.rest;split
   ·rename_i R O;have E:=L _ |>.mono I
    rw [O] at E;exact (C1m p R).mono E
   ·have E:=L _ |>.mono I
    exact E
  ·rename_i J;have I:=Lt (p:=p) J;exact (C1m p _).mono I
 ·exact C1m _ _
theorem G4q (p:Program)(m:Machine):MLe m.world.drawn (move p m):=by
 unfold move;split
 ·split
  ·exact Nat.le_refl _
  ·trivial
 ·split
  ·split
   ·exact Nat.le_refl _
   ·exact E3b p { m with rest:={ m.rest with slice:=none } }
  ·exact E3b _ _
theorem E4s (p:Program)(m:Machine):U3 m.world.drawn (step p m):=by
 unfold step stepT;have h:=G4q p m;generalize move p m=mv at h;cases mv with
 |goroutine E i=>exact (F2k p E i true).mono h
 |machine s ops=>exact h
theorem C7q (p:Program):∀(n:Nat)(m:Machine),U3 m.world.drawn (runN p n m)
 | 0,m=>Nat.le_refl _
 |n+1,m=>by
  rw [runN];have h:=E4s p m;split
  ·rename_i E I;rw [I] at h;exact (C7q p n E).mono h
  ·rename_i I;cases hs:step p m with
   |next E=>exact (I E hs).elim
   |ended o w=>trivial
theorem Calls.drawn {P:Program} {f:FuncId} {args:Array Value} {w:World} {R:Ending→World→Prop} (h:Calls P f args w R):Calls P f args w fun e w'=>R e w'∧((∃v,e=.returned v)→w.drawn≤w'.drawn):=fun cs=>by obtain⟨e,w',I,O,E,L⟩:=h cs;refine⟨e,w',I,⟨O,?_⟩,E,L⟩;rintro⟨v,rfl⟩;obtain⟨n,J⟩:=E;have:=C7q P n (lone (Frame.enter P f args .normal) cs w);rw [J] at this;exact this
end Go.Abs
