/- the tape is never asked less: every step of the machine draws at least nothing -/
import Derived.RunT
import Derived.Test.YtieakoebgfiniaaGreatDoorZDec
import Derived.Lib.QuietBelow
set_option linter.all false
set_option maxHeartbeats 2000000
set_option maxRecDepth 100000
namespace Go.Abs
open Go
def RLe{α:Type}(d:Nat):Result α->Prop
 |.ok _ w=>d<=w.drawn
 |.halt _ w=>d<=w.drawn
def Iz(d:Nat):GStep->Prop
 |.go _ w _| .comm _ _ _ _ w _| .spawn _ _ w _| .count _ w _| .timer _ _ w _| .alone _ _ w _| .newcoro _ _ _ w _| .coroswitch _ _ _ w _| .collect _ w _| .watch _ w _=>d<=w.drawn
 |.ended ..=>True
def Ub(d:Nat):Stepped->Prop
 |.next m=>d<=m.world.drawn
 |.ended ..=>True
def C3v{α:Type}:∀(x:Ask α)(w:World),w.drawn<=(w.ask x).2.drawn
 |.done a,w=>Bs _
 |.ask I E k,w=>by
  rw[World.ask];split
  .exact C3v _ _
  .exact Cp (Nat.le_succ _) (C3v (k _) { w with drawn:=w.drawn+1 })
def G2g(w:World)(c:Sys):w.drawn<=(w.sys c).2.drawn:=by
 unfold World.sys;have h:=C3v (Kernel.perform c w.os) w;split
 .exact Bs _
 .rename_i r os w' _ E;rw[E]at h;exact h
def H0d{p:Program}{w:World}{at_:Addr}{u:TypeId}{k:Addr}{v:Value}{a:Bool}{r:World × List Addr}(h:w.viewStore p at_ u k v a=.ok r):r.1.drawn=w.drawn:=by
 unfold World.viewStore at h;simp only[bind,Except.bind,pure,Except.pure,throw,throwThe,MonadExceptOf.throw]at h
 repeat' (split at h)
 all_goals (first| (cases h;done)| (cases h;rfl)|skip)
def F8d{p:Program}{w:World}{a:Addr}{v:Value}{b:Bool}{r:World × List Addr}(h:w.farStore p a v b=.ok r):r.1.drawn=w.drawn:=by
 unfold World.farStore at h;split at h
 .split at h
  .rename_i E hr;cases h;exact H0d hr
  .cases h
 .cases h
def B3i{α:Type}(p:Program):∀(s:Sem α)(w:World)(es:Array Event),RLe w.drawn (s.runT p w es).1:=by
 intro s
 induction s with
 |pure a=>intro w es;exact Bs _
 |load m a k E =>
  intro w es;rw[Sem.runT];split
  .exact E _ _ _
  .split
   .exact E _ _ _
   .exact Bs _
 |store m a v k E =>
  intro w es
  have key:∀r:Result α × Array Event,(r=(Result.halt (.stuck "store: not the value of one cell") w,es) \/
    ((∃I,r=k.runT p (w.setCell a v) I)\/(∃w' I,w'.drawn=w.drawn/\r=k.runT p w' I)\/∃h,r=(Result.halt h w,es)))->RLe w.drawn r.1:=by
   rintro r (rfl|⟨I,rfl⟩|⟨w',I,h,rfl⟩|⟨h,rfl⟩)
   .exact Bs _
   .exact E (w.setCell a v) _
   .have:=E w' I;rw[h]at this;exact this
   .exact Bs _
  refine key _ ?_;cases v <;> first|exact .inl rfl| (
   refine .inr ?_;rw[Sem.runT]
   .split
    .split
     .exact .inr (.inr ⟨_,rfl⟩)
     .exact .inl ⟨_,rfl⟩
    .split
     .rename_i J;exact .inr (.inl ⟨_,_,F8d J,rfl⟩)
     .exact .inr (.inr ⟨_,rfl⟩)
   all_goals (intro _ h;cases h))
 |new o k E=>intro w es;exact E _ { w with heap:=w.heap.push o } _
 |shape r k E=>intro w es;exact E _ _ _
 |freeze a n k E =>
  intro w es;have h:(w.freeze a n).drawn=w.drawn:=by unfold World.freeze;split <;> rfl
  have:=E (w.freeze a n) es;rw[h]at this;exact this
 |frozen a k E=>intro w es;exact E _ _ _
 |getObj r k E =>
  intro w es;rw[Sem.runT];split
  .exact Bs _
  .exact E _ _ _
  .exact Bs _
 |setObj r o k E =>
  intro w es;rw[Sem.runT];split
  .exact Bs _
  .exact E { w with heap:=w.heap.setIfInBounds r o } _
  .exact Bs _
 |choose q k E =>
  intro w es;rw[Sem.runT];split
  .exact E _ _ _
  .have:=E (q.cut (w.tape w.drawn q)) { w with drawn:=w.drawn+1 } es;revert this;generalize((k (q.cut (w.tape w.drawn q))).runT p { w with drawn:=w.drawn+1 } es).1=r;cases r <;> (simp only[RLe];omega)
 |sys c k E =>intro w es;rw[Sem.runT];have L:=G2g w c;have:=E (w.sys c).1 (w.sys c).2 (es.push ⟨.output,true,false⟩);revert this;generalize((k (w.sys c).1).runT p (w.sys c).2 (es.push ⟨.output,true,false⟩)).1=r;cases r <;> (simp only[RLe];omega)
 |program k E=>intro w es;exact E _ _ _
 |mark m k E=>intro w es;exact E _ _
 |halt h=>intro w es;exact Bs _
def C5k{α:Type}(p:Program)(s:Sem α)(w:World):RLe w.drawn (s.run p w):=by
 have:=B3i p s w #[]
 rwa [Sem.runT_fst]at this
def Lv{α:Type}{p:Program}{s:Sem α}{w w':World}{a:α}(h:s.run p w=.ok a w'):w.drawn<=w'.drawn:=by have:=C5k p s w;rw[h]at this;exact this
def G6j{α:Type}{p:Program}{s:Sem α}{w w':World}{a:Halt}(h:s.run p w=.halt a w'):w.drawn<=w'.drawn:=by have:=C5k p s w;rw[h]at this;exact this
def A2q{α:Type}{p:Program}{s:Sem α}{w w':World}{a:α}{es E:Array Event}(h:s.runT p w es=(.ok a w',E)):w.drawn<=w'.drawn:=by have:=B3i p s w es;rw[h]at this;exact this
def C6w{α:Type}{p:Program}{s:Sem α}{w w':World}{a:Halt}{es E:Array Event}(h:s.runT p w es=(.halt a w',E)):w.drawn<=w'.drawn:=by have:=B3i p s w es;rw[h]at this;exact this
def Iz.mono{d E:Nat}(h:d<=E):∀{g:GStep},Iz E g->Iz d g:=by intro g;cases g <;> simp only[Iz] <;> first|exact Cp h|exact λ_=>trivial
def A9n{d:Nat}{es:Array Event}{g:GStep}(h:Iz d g):Iz d (GStep.after es g):=by cases g <;> exact h
def G8z(d:Nat)(w:World)(fd:Nat)(t:ByteArray)(o:Outcome):Iz d (endWith w fd t o):=by
 unfold endWith;simp only
 repeat' split
 all_goals trivial
def F8p(E:Frame)(a:List ByteArray)(m:String)(b:Bool)(w:World):Iz w.drawn (dieOf E a m b w):=Bs _
def B6v(E:Frame)(m:String)(w:World):Iz w.drawn (endThrow E m w):=Bs _
def E8a(p:Program)(E:Frame)(v:Value)(w:World):Iz w.drawn (endPrinting p E v w):=by
 unfold endPrinting;simp only;split
 .exact B6v _ _ _
 .trivial
def E7p(p:Program)(I:Frame)(cs:List Frame)(E:Option Dying)(m:String)(w:World):Iz w.drawn (endFatal p I cs E m w):=by
 unfold endFatal;simp only;split
 .rename_i J;exact(F8p _ _ _ _ _).mono (Lv J)
 .trivial
 .trivial
def F1n(p:Program)(I:Frame)(d:Dying)(f:Fatal)(w:World):Iz w.drawn (writeOn p I d f w):=by
 unfold writeOn;simp only;split
 .trivial
 .split
  .rename_i E;exact A2q E
  .rename_i E;exact C6w E
  .trivial
  .trivial
def H1n(p:Program)(I:Frame)(d:Dying)(w:World):Iz w.drawn (die p I d w):=by
 unfold die;split
 .exact F1n _ _ _ _ _
 .split
  .split
   .exact Bs _
   .exact G8z _ _ _ _ _
  .simp only;split
   .exact Bs _
   .split
    .rename_i E;exact Lv E
    .trivial
   .refine A9n ?_;split
    .rename_i E;exact A2q (Prod.ext E rfl)
    .rename_i E;exact A2q (Prod.ext E rfl)
    .trivial
    .rename_i E;exact(E8a _ _ _ _).mono (C6w (Prod.ext E rfl))
    .trivial
   .trivial
def C5f(p:Program)(main:Bool)(E:Frame)(cs:List Frame)(I:Option Dying)(v:Value)(w:World):Iz w.drawn (doReturn p main E cs I v w):=by
 unfold doReturn;split
 .split <;> exact Bs _
 .split
  .exact Bs _
  .trivial
  .split
   .exact Bs _
   .split
    .exact Bs _
    .trivial
def A5d{d:Nat}{c:Prop}[Decidable c] {a b:GStep}(I:Iz d a)(E:Iz d b):Iz d (if c then a else b):=by
 split
 .exact I
 .exact E
def F4e(p:Program)(E:Frame)(cs:List Frame)(I:Option Dying)(d:Deferred)(w:World):Iz w.drawn (callDeferred p E cs I d w):=by
 unfold callDeferred;refine A5d trivial ?_
 .simp only;have h:=B3i p (invoke d.target d.args) w #[];generalize(invoke d.target d.args).runT p w #[]=re at h;obtain⟨r,es⟩:=re;refine A9n ?_;simp only at h |-
  repeat' split
  all_goals first|exact h|trivial|exact(E7p _ _ _ _ _ _).mono h|exact(B6v _ _ _).mono h
def H2k(p:Program)(main:Bool)(I:Frame)(cs:List Frame)(J:Option Dying)(w:World):Iz w.drawn (unwind p main I cs J w):=by
 unfold unwind;split
 .refine A9n ?_;split
  .rename_i E;exact A2q (Prod.ext E rfl)
  .trivial
 .exact F4e _ _ _ _ _ _
 .split
  .trivial
  .split
   .trivial
   .split
    .exact Bs _
    .split
     .split
      .exact Bs _
      .split
       .rename_i E;exact Lv E
       .trivial
       .trivial
     .split
      .exact E8a _ _ _ _
      .trivial
  .split
   .exact C5f _ _ _ _ _ _ _
   .refine A9n ?_;split
    .rename_i E;exact(C5f _ _ _ _ _ _ _).mono (A2q (Prod.ext E rfl))
    .trivial
    .trivial
def F4i(p:Program)(L:Frame)(cs:List Frame)(O:Option Dying)(g:Nat)(w:World):Iz w.drawn (early p L cs O g w):=by
 unfold early;simp only;have E:∀w':World,w.drawn<=w'.drawn->Iz w.drawn (match w'.heap[g]? with
  |some (.pending c I)=>GStep.go { frame:=L,callers:=cs,status:=.running,dying:=O } { w' with heap:=w'.heap.setIfInBounds g (.cells c I) } #[]
  |_=>.ended (.stuck "early: the variable does not wait" (L.pos p)) w' #[]):=λw' h=>by
  split
  .exact h
  .trivial
 refine A5d (E _ (Bs _)) ?_;split
 .trivial
 .refine A5d (E _ (Bs _)) (A5d (E _ (Bs _)) ?_);split
  .trivial
  .exact Bs _
  .trivial
  .exact E _ (Bs _)
  .refine A5d (Bs _) (A5d (E _ (Bs _)) ?_);split
   .rename_i J;exact E _ (Lv J)
   .rename_i J;exact Lv J
   .trivial
def C6f(p:Program)(E:Bool)(I:Frame)(cs:List Frame)(J:Option Dying)(s:Sem Next)(w:World):Iz w.drawn (stepG.apply p E I cs J s w):=by
 unfold stepG.apply;simp only;have h:RLe w.drawn (if E then s.runT p w #[]else(s.run p w,#[])).1:=by
  split
  .exact B3i p s w #[]
  .exact C5k p s w
 generalize(if E then s.runT p w #[]else(s.run p w,#[]))=re at h;obtain⟨r,es⟩:=re;refine A9n ?_;simp only at h |-;split
 all_goals first
  |exact h
  |trivial
  |exact(E7p _ _ _ _ _ _).mono h
  |exact(B6v _ _ _).mono h
  |exact(F4i _ _ _ _ _ _).mono h
  |(refine A5d ((B6v _ _ _).mono h) h;done)
  |(split <;> exact h)
def E9v(p:Program)(E:Bool)(I:Frame)(cs:List Frame)(J:Option Dying)(w:World):Iz w.drawn (stepG.oper p E I cs J w):=by
 unfold stepG.oper;split
 .trivial
 .split <;> exact C6f _ _ _ _ _ _ _
def H3p(p:Program)(main I:Bool)(J:Frame)(cs:List Frame)(L:Option Dying)(w:World):Iz w.drawn (stepG.exec p main I J cs L w):=by
 unfold stepG.exec;simp only;split
 all_goals (try unfold Option.elim)
 all_goals (repeat' (first
  |exact C6f _ _ _ _ _ _ _
  |exact E9v _ _ _ _ _ _
  |(rename_i E;exact(C6f _ _ _ _ _ _ _).mono (A2q (Prod.ext E rfl)))
  |(rename_i E;exact(C5f _ _ _ _ _ _ _).mono (A2q (Prod.ext E rfl)))
  |(rename_i E;exact Lv E)
  |(rename_i E;exact A2q (Prod.ext E rfl))
  |(rename_i E;exact C6w (Prod.ext E rfl))
  |exact Bs _
  |trivial
  |refine A9n ?_
  |split))
def H4q(p:Program)(main:Bool)(g:Goroutine)(w:World)(E:Bool):Iz w.drawn (stepG p main g w E):=by
 unfold stepG;simp only;split
 .exact H1n _ _ _ _
 .exact H3p _ _ _ _ _ _ _
 .exact H2k _ _ _ _ _ _
def Ub.mono{d E:Nat}(h:d<=E):∀{g:Stepped},Ub E g->Ub d g:=by intro g;cases g <;> simp only[Ub] <;> first|exact Cp h|exact λ_=>trivial
def H2g{rest:Rest}{cs:Array CommCase}{w w':World}(h:waitingAt rest cs w=some w'):w'.drawn=w.drawn:=by
 unfold waitingAt at h;split at h
 .split at h
  .cases h;rfl
  .cases h
 .cases h;rfl
def G6b(p:Program)(rest:Rest)(O:Array Goroutine)(i:Nat)(g:Goroutine)(cases:Array CommCase)(b:Bool)(L:CommShape)(w:World):Ub w.drawn (communicate p rest O i g cases b L w).1:=by
 unfold communicate;simp only
 repeat' (first
  |exact Bs _
  |trivial
  |(rename_i I;exact Nat.le_of_eq (H2g I).symm)
  |(rename_i I;exact Lv I)
  |(have E:=Lv (p:=p) (w:=w) (by assumption);exact E)
  |(have E:=Lv (p:=p) (w:=w) (by assumption);have J:=G6j (p:=p) (by assumption);exact Cp E J)
  |(have E:=Lv (p:=p) (w:=w) (by assumption);have J:=Lv (p:=p) (by assumption);exact Cp E J)
  |split)
def D4a(p:Program)(I:Array Goroutine)(rest:Rest)(w:World):Ub w.drawn (look p I rest w):=by
 unfold look;split
 .simp only;split
  .trivial
  .split
   .trivial
   .split
    .rename_i E;have J:=Lv (p:=p) (w:=w) E;exact J
    .trivial
    .trivial
 .trivial
def F1i(w:World)(c:Nat):(drain w c).2.drawn=w.drawn:=by unfold drain;split <;> rfl
def F7n{m:Machine}{op:TimerOp}{r:Value × Machine}(h:timerOp m op=.ok r):r.2.world.drawn=m.world.drawn:=by
 have E:∀(m:Machine) k t a b,(retime m k t a b).2.world.drawn=m.world.drawn:=λm k t a b=>by
  unfold retime;cases t.chan with
  |none=>rfl
  |some c=>exact F1i m.world c
 have J:∀(L:Machine) var f,(∀k t,(f k t).2.world.drawn=m.world.drawn)->∀r,timerOp.named L var f=.ok r->r.2.world.drawn=m.world.drawn:=λL var f O r hr=>by
  unfold timerOp.named at hr;split at hr
  .cases hr;exact O _ _
  .cases hr
 unfold timerOp at h;split at h
 .split at h
  .cases h;rfl
  .split at h
   .split at h
    .cases h
    .cases h;rfl
   .cases h
 .exact J _ _ _ (λ_ _=>E _ _ _ _ _) _ h
 .split at h
  .rename_i L I;have U:L.world.drawn=m.world.drawn:=by
    unfold timerOp.opened at I;split at I
    .split at I
     .cases I;rfl
     .cases I
    .cases I;rfl
   exact J _ _ _ (λ_ _=>(E _ _ _ _ _).trans U) _ h
  .cases h
 .cases h;rfl
def H0x(p:Program)(m:Machine)(k:Nat):Ub m.world.drawn (serve p m k):=by
 unfold serve;simp only
 repeat' (first
  |exact Bs _
  |trivial
  |split)
def F6d(p:Program)(m:Machine)(i:Nat)(E:Bool):Ub m.world.drawn (Go.runT p m i E).1:=by
 unfold Go.runT;simp only;have h:=H4q p (i ==0) (m.gs.swapAt! i { (default:Goroutine)with status:=.finished }).1 m.world E;generalize stepG p (i ==0) (m.gs.swapAt! i { (default:Goroutine)with status:=.finished }).1 m.world E=s at h;cases s with
 |ended o w es=>trivial
 |comm g cases b sh w es=>exact(G6b _ _ _ _ _ _ _ _ _).mono h
 |go g w es=>exact h
 |spawn g c w es=>exact h
 |count g w es =>
  simp only;split
  .trivial
  .exact h
 |alone g on w es=>exact h
 |collect g w es=>exact(D4a _ _ _ _).mono h
 |watch g w es=>exact h
 |newcoro g c d w es=>exact h
 |coroswitch g c e w es =>
  simp only;split
  .exact h
  .exact h
  .trivial
 |timer g op w es =>
  simp only;split
  .rename_i v L J;have I:=F7n J;simp only at I;exact Cp h (Nat.le_of_eq I.symm)
  .exact h
  .trivial
  .trivial
def MLe(d:Nat):Move->Prop
 |.goroutine m _=>d<=m.world.drawn
 |.machine s _=>Ub d s
def MLe.mono{d E:Nat}(h:d<=E):∀{g:Move},MLe E g->MLe d g:=by
 intro g;cases g <;> simp only[MLe]
 .exact Cp h
 .exact Ub.mono h
def C5a(p:Program)(m:Machine):MLe m.world.drawn (askOn p m):=by
 unfold askOn
 extract_lets mono rs ds pick
 have O:∀L:Machine,MLe L.world.drawn (pick L):=λL=>by
  simp only[pick];split
  .trivial
  .rename_i I;have I:=Lv (p:=p) I;split
   .exact I
   .split
    .trivial
    .rename_i E;have E:=Lv (p:=p) E;exact Cp I E
 clear_value pick
 split
 .trivial
 .rename_i k V U;have I:=Lv (p:=p) U;clear U
  extract_lets m1
  have J:m.world.drawn<=m1.world.drawn:=I
  clear_value m1 rs
  split
  .exact(H0x p m1 _).mono J
  .cases rs with
   |nil =>
    simp only;split
    .exact J
    .split
     .exact J
     .split <;> trivial
   |cons r rs =>
    simp only;split
    .exact(O m1).mono J
    .split
     .trivial
     .rename_i E;have E:=Lv (p:=p) E;exact(O _).mono (Cp I E)
     .rename_i E;have E:=Lv (p:=p) E;exact Cp I E
     .rename_i E;have E:=Lv (p:=p) E;exact(O _).mono (Cp I E)
def E3m(p:Program)(m:Machine):MLe m.world.drawn (ask p m):=by
 unfold ask;split
 .split
  .trivial
  .rename_i J;have E:=Lv (p:=p) J;have L:=D4a p m.gs m.rest;split
   .rename_i O U;have I:=L _ |>.mono E
    rw[U]at I;exact(C5a p O).mono I
   .have I:=L _ |>.mono E
    exact I
  .rename_i J;have E:=Lv (p:=p) J;exact(C5a p _).mono E
 .exact C5a _ _
def G3b(p:Program)(m:Machine):MLe m.world.drawn (move p m):=by
 unfold move;split
 .split
  .exact Bs _
  .trivial
 .split
  .split
   .exact Bs _
   .exact E3m p { m with rest:={ m.rest with slice:=none } }
  .exact E3m _ _
def F4p(p:Program)(m:Machine):Ub m.world.drawn (step p m):=by
 unfold step stepT;have h:=G3b p m;generalize move p m=mv at h;cases mv with
 |goroutine E i=>exact(F6d p E i true).mono h
 |machine s ops=>exact h
def E0d(p:Program):∀(n:Nat)(m:Machine),Ub m.world.drawn (runN p n m)
 |0,m=>Bs _
 |n+1,m=>by
  rw[runN];have h:=F4p p m;split
  .rename_i E I;rw[I]at h;exact(E0d p n E).mono h
  .rename_i I;cases hs:step p m with
   |next E=>exact(I E hs).elim
   |ended o w=>trivial
def Calls.drawn{P:Program}{f:FuncId}{args:Array Value}{w:World}{R:Ending->World->Prop}(h:Calls P f args w R):Calls P f args w λe w'=>R e w'/\((∃v,e=.returned v)->w.drawn<=w'.drawn):=λcs=>by obtain⟨e,w',L,I,E,J⟩:=h cs;refine⟨e,w',L,⟨I,?_⟩,E,J⟩;rintro⟨v,rfl⟩;obtain⟨n,O⟩:=E;have:=E0d P n (lone (Frame.enter P f args .normal) cs w);rw[O]at this;exact this
end Go.Abs
/- a contract of the own framework, as the shelf's laws on comparisons ask it: what was there stays, the tape is asked some more -/
namespace Go.Abs
open Go Go.Sort
variable {P:Program}
def G5s{w w':World}(h:RowKit.Below w.heap.size w w')(hd:w.drawn<=w'.drawn):∃q E,w'=grow (w.drewN q) E:=by obtain⟨⟨d,os⟩,J⟩:=regrown_of_below h;subst J;refine⟨d - w.drawn,os,?_⟩;have I:w.drawn<=d:=hd;simp only[grow,redrawn,World.drewN,show w.drawn+(d - w.drawn)=d by omega]
def Aa.grown{f:FuncId}{args:List SV}{c:Int}(h:Aa P f args (.d (.int .i64 c))){W:World}{β:Names}{vs:List Value}(U:Bv (all W) W β args vs){sy ra:TypeId × Value}(ht:∀b cs,A9q sy ra b cs->∃ty O,W.heap[b]?=some (.cells cs ty O)) :
  Calls P f ⟨vs⟩ W λe I=>e=.returned (.int .i64 c)/\∃q E,I=grow (W.drewN q) E:=by
 refine(Calls.drawn (h.calls U ht)).mono ?_;rintro e I ⟨⟨v,S',β',rfl,hr,L⟩,hd⟩;refine⟨?_,G5s L (hd ⟨_,rfl⟩)⟩;have J:=hr.Ij;cases J;rfl
end Go.Abs
