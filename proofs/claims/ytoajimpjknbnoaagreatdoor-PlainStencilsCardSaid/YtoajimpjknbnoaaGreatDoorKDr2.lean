import Derived.RunT
import Derived.Test.YtoajimpjknbnoaaGreatDoorKDec
import Derived.Lib.QuietBelow
set_option linter.all false
set_option maxHeartbeats 2000000
set_option maxRecDepth 100000
namespace Go.iA
open Go
def ZH{α:Type}(d:Nat):Result α->Prop
 |.ok _ w=>d<=w.drawn
 |.halt _ w=>d<=w.drawn
def Kb(d:Nat):GStep->Prop
 |.go _ w _| .comm _ _ _ _ w _| .spawn _ _ w _| .count _ w _| .timer _ _ w _| .alone _ _ w _| .newcoro _ _ _ w _| .coroswitch _ _ _ w _| .collect _ w _| .watch _ w _=>d<=w.drawn
 |.ended ..=>True
def X9(d:Nat):Stepped->Prop
 |.next m=>d<=m.world.drawn
 |.ended ..=>True
def yU{α:Type}:∀(x:Ask α)(w:World),w.drawn<=(w.ask x).2.drawn
 |.done a,w=>Bv _
 |.ask I E k,w=>by rw[World.ask];split;exact yU _ _;exact Cy (Nat.le_succ _) (yU (k _) { w with drawn:=w.drawn+1 })
def H3q(w:World)(c:Sys):w.drawn<=(w.sys c).2.drawn:=by unfold World.sys;have h:=yU (Kernel.perform c w.os) w;split;exact Bv _;rename_i r os w' _ E;rw[E]at h;exact h
def G7k{p:Program}{w:World}{at_:Addr}{u:TypeId}{k:Addr}{v:Value}{a:Bool}{r:World × List Addr}(h:w.viewStore p at_ u k v a=.ok r):r.1.drawn=w.drawn:=by
 unfold World.viewStore at h;simp only[bind,Except.bind,pure,Except.pure,throw,throwThe,MonadExceptOf.throw]at h
 repeat' (split at h)
 all_goals (first| (cases h;done)| (cases h;rfl)|skip)
def G6c{p:Program}{w:World}{a:Addr}{v:Value}{b:Bool}{r:World × List Addr}(h:w.farStore p a v b=.ok r):r.1.drawn=w.drawn:=by unfold World.farStore at h;split at h;split at h;rename_i E hr;cases h;exact G7k hr;cases h;cases h
def dL{α:Type}(p:Program):∀(s:Sem α)(w:World)(es:Array Event),ZH w.drawn (s.runT p w es).1:=by
 intro s
 induction s with
 |pure a=>intro w es;exact Bv _
 |load m a k E =>intro w es;rw[Sem.runT];split;exact E _ _ _;split;exact E _ _ _;exact Bv _
 |store m a v k E =>
  intro w es;have key:∀r:Result α × Array Event,(r=(Result.halt (.stuck "store: not the value of one cell") w,es) \/ ((∃I,r=k.runT p (w.setCell a v) I)\/(∃w' I,w'.drawn=w.drawn/\r=k.runT p w' I)\/∃h,r=(Result.halt h w,es)))->ZH w.drawn r.1:=by rintro r (rfl|⟨I,rfl⟩|⟨w',I,h,rfl⟩|⟨h,rfl⟩);exact Bv _;exact E (w.setCell a v) _;have:=E w' I;rw[h]at this;exact this;exact Bv _
  refine key _ ?_;cases v <;> first|exact .inl rfl| (
   refine .inr ?_;rw[Sem.runT]
   .split
    .split
     .exact .inr (.inr ⟨_,rfl⟩)
     .exact .inl ⟨_,rfl⟩
    .split
     .rename_i J;exact .inr (.inl ⟨_,_,G6c J,rfl⟩)
     .exact .inr (.inr ⟨_,rfl⟩)
   all_goals (intro _ h;cases h))
 |new o k E=>intro w es;exact E _ { w with heap:=w.heap.push o } _
 |shape r k E=>intro w es;exact E _ _ _
 |freeze a n k E =>
  intro w es;have h:(w.freeze a n).drawn=w.drawn:=by unfold World.freeze;split <;> rfl
  have:=E (w.freeze a n) es;rw[h]at this;exact this
 |frozen a k E=>intro w es;exact E _ _ _
 |getObj r k E =>intro w es;rw[Sem.runT];split;exact Bv _;exact E _ _ _;exact Bv _
 |setObj r o k E =>intro w es;rw[Sem.runT];split;exact Bv _;exact E { w with heap:=w.heap.setIfInBounds r o } _;exact Bv _
 |choose q k E =>intro w es;rw[Sem.runT];split;exact E _ _ _;have:=E (q.cut (w.tape w.drawn q)) { w with drawn:=w.drawn+1 } es;revert this;generalize((k (q.cut (w.tape w.drawn q))).runT p { w with drawn:=w.drawn+1 } es).1=r;cases r <;> (simp only[ZH];omega)
 |sys c k E =>intro w es;rw[Sem.runT];have L:=H3q w c;have:=E (w.sys c).1 (w.sys c).2 (es.push ⟨.output,true,false⟩);revert this;generalize((k (w.sys c).1).runT p (w.sys c).2 (es.push ⟨.output,true,false⟩)).1=r;cases r <;> (simp only[ZH];omega)
 |program k E=>intro w es;exact E _ _ _
 |mark m k E=>intro w es;exact E _ _
 |halt h=>intro w es;exact Bv _
def dU{α:Type}(p:Program)(s:Sem α)(w:World):ZH w.drawn (s.run p w):=by
 have:=dL p s w #[]
 rwa [Sem.runT_fst]at this
def Mu{α:Type}{p:Program}{s:Sem α}{w w':World}{a:α}(h:s.run p w=.ok a w'):w.drawn<=w'.drawn:=by have:=dU p s w;rw[h]at this;exact this
def F4j{α:Type}{p:Program}{s:Sem α}{w w':World}{a:Halt}(h:s.run p w=.halt a w'):w.drawn<=w'.drawn:=by have:=dU p s w;rw[h]at this;exact this
def rF{α:Type}{p:Program}{s:Sem α}{w w':World}{a:α}{es E:Array Event}(h:s.runT p w es=(.ok a w',E)):w.drawn<=w'.drawn:=by have:=dL p s w es;rw[h]at this;exact this
def dW{α:Type}{p:Program}{s:Sem α}{w w':World}{a:Halt}{es E:Array Event}(h:s.runT p w es=(.halt a w',E)):w.drawn<=w'.drawn:=by have:=dL p s w es;rw[h]at this;exact this
def Kb.mono{d E:Nat}(h:d<=E):∀{g:GStep},Kb E g->Kb d g:=by intro g;cases g <;> simp only[Kb] <;> first|exact Cy h|exact λ_=>trivial
def fI{d:Nat}{es:Array Event}{g:GStep}(h:Kb d g):Kb d (GStep.after es g):=by cases g <;> exact h
def H1y(d:Nat)(w:World)(fd:Nat)(t:ByteArray)(o:Outcome):Kb d (endWith w fd t o):=by
 unfold endWith;simp only
 repeat' split
 all_goals trivial
def vv(E:Frame)(a:List ByteArray)(m:String)(b:Bool)(w:World):Kb w.drawn (dieOf E a m b w):=Bv _
def KO(E:Frame)(m:String)(w:World):Kb w.drawn (endThrow E m w):=Bv _
def Rl(p:Program)(E:Frame)(v:Value)(w:World):Kb w.drawn (endPrinting p E v w):=by unfold endPrinting;simp only;split;exact KO _ _ _;trivial
def dZ(p:Program)(J:Frame)(cs:List Frame)(E:Option Dying)(m:String)(w:World):Kb w.drawn (endFatal p J cs E m w):=by unfold endFatal;simp only;split;rename_i I;exact(vv _ _ _ _ _).mono (Mu I);trivial;trivial
def G0q(p:Program)(I:Frame)(d:Dying)(f:Fatal)(w:World):Kb w.drawn (writeOn p I d f w):=by unfold writeOn;simp only;split;trivial;split;rename_i E;exact rF E;rename_i E;exact dW E;trivial;trivial
def fy(p:Program)(I:Frame)(d:Dying)(w:World):Kb w.drawn (die p I d w):=by unfold die;split;exact G0q _ _ _ _ _;split;split;exact Bv _;exact H1y _ _ _ _ _;simp only;split;exact Bv _;split;rename_i E;exact Mu E;trivial;refine fI ?_;split;rename_i E;exact rF (Prod.ext E rfl);rename_i E;exact rF (Prod.ext E rfl);trivial;rename_i E;exact(Rl _ _ _ _).mono (dW (Prod.ext E rfl));trivial;trivial
def DT(p:Program)(main:Bool)(I:Frame)(cs:List Frame)(E:Option Dying)(v:Value)(w:World):Kb w.drawn (doReturn p main I cs E v w):=by unfold doReturn;split;split <;> exact Bv _;split;exact Bv _;trivial;split;exact Bv _;split;exact Bv _;trivial
def NH{d:Nat}{c:Prop}[Decidable c] {a b:GStep}(E:Kb d a)(I:Kb d b):Kb d (if c then a else b):=by split;exact E;exact I
def G4u(p:Program)(I:Frame)(cs:List Frame)(E:Option Dying)(d:Deferred)(w:World):Kb w.drawn (callDeferred p I cs E d w):=by
 unfold callDeferred;refine NH trivial ?_
 .simp only;have h:=dL p (invoke d.target d.args) w #[];generalize(invoke d.target d.args).runT p w #[]=re at h;obtain⟨r,es⟩:=re;refine fI ?_;simp only at h |-
  repeat' split
  all_goals first|exact h|trivial|exact(dZ _ _ _ _ _ _).mono h|exact(KO _ _ _).mono h
def qy(p:Program)(main:Bool)(J:Frame)(cs:List Frame)(I:Option Dying)(w:World):Kb w.drawn (unwind p main J cs I w):=by unfold unwind;split;refine fI ?_;split;rename_i E;exact rF (Prod.ext E rfl);trivial;exact G4u _ _ _ _ _ _;split;trivial;split;trivial;split;exact Bv _;split;split;exact Bv _;split;rename_i E;exact Mu E;trivial;trivial;split;exact Rl _ _ _ _;trivial;split;exact DT _ _ _ _ _ _ _;refine fI ?_;split;rename_i E;exact(DT _ _ _ _ _ _ _).mono (rF (Prod.ext E rfl));trivial;trivial
def yu(p:Program)(L:Frame)(cs:List Frame)(O:Option Dying)(g:Nat)(w:World):Kb w.drawn (early p L cs O g w):=by
 unfold early;simp only;have E:∀w':World,w.drawn<=w'.drawn->Kb w.drawn (match w'.heap[g]? with
  |some (.pending c I)=>GStep.go { frame:=L,callers:=cs,status:=.running,dying:=O } { w' with heap:=w'.heap.setIfInBounds g (.cells c I) } #[]
  |_=>.ended (.stuck "early: the variable does not wait" (L.pos p)) w' #[]):=λw' h=>by
  split
  .exact h
  .trivial
 refine NH (E _ (Bv _)) ?_;split;trivial;refine NH (E _ (Bv _)) (NH (E _ (Bv _)) ?_);split;trivial;exact Bv _;trivial;exact E _ (Bv _);refine NH (Bv _) (NH (E _ (Bv _)) ?_);split;rename_i J;exact E _ (Mu J);rename_i J;exact Mu J;trivial
def AS(p:Program)(E:Bool)(J:Frame)(cs:List Frame)(I:Option Dying)(s:Sem Next)(w:World):Kb w.drawn (stepG.apply p E J cs I s w):=by
 unfold stepG.apply;simp only;have h:ZH w.drawn (if E then s.runT p w #[]else(s.run p w,#[])).1:=by split;exact dL p s w #[];exact dU p s w
 generalize(if E then s.runT p w #[]else(s.run p w,#[]))=re at h;obtain⟨r,es⟩:=re;refine fI ?_;simp only at h |-;split
 all_goals first
  |exact h
  |trivial
  |exact(dZ _ _ _ _ _ _).mono h
  |exact(KO _ _ _).mono h
  |exact(yu _ _ _ _ _ _).mono h
  |(refine NH ((KO _ _ _).mono h) h;done)
  |(split <;> exact h)
def G6f(p:Program)(J:Bool)(I:Frame)(cs:List Frame)(E:Option Dying)(w:World):Kb w.drawn (stepG.oper p J I cs E w):=by unfold stepG.oper;split;trivial;split <;> exact AS _ _ _ _ _ _ _
def H3w(p:Program)(main L:Bool)(J:Frame)(cs:List Frame)(I:Option Dying)(w:World):Kb w.drawn (stepG.exec p main L J cs I w):=by
 unfold stepG.exec;simp only;split;all_goals (try unfold Option.elim)
 all_goals (repeat' (first
  |exact AS _ _ _ _ _ _ _
  |exact G6f _ _ _ _ _ _
  |(rename_i E;exact(AS _ _ _ _ _ _ _).mono (rF (Prod.ext E rfl)))
  |(rename_i E;exact(DT _ _ _ _ _ _ _).mono (rF (Prod.ext E rfl)))
  |(rename_i E;exact Mu E)
  |(rename_i E;exact rF (Prod.ext E rfl))
  |(rename_i E;exact dW (Prod.ext E rfl))
  |exact Bv _
  |trivial
  |refine fI ?_
  |split))
def F4u(p:Program)(main:Bool)(g:Goroutine)(w:World)(E:Bool):Kb w.drawn (stepG p main g w E):=by unfold stepG;simp only;split;exact fy _ _ _ _;exact H3w _ _ _ _ _ _ _;exact qy _ _ _ _ _ _
def X9.mono{d E:Nat}(h:d<=E):∀{g:Stepped},X9 E g->X9 d g:=by intro g;cases g <;> simp only[X9] <;> first|exact Cy h|exact λ_=>trivial
def F4i{rest:Rest}{cs:Array CommCase}{w w':World}(h:waitingAt rest cs w=some w'):w'.drawn=w.drawn:=by unfold waitingAt at h;split at h;split at h;cases h;rfl;cases h;cases h;rfl
def F6g(p:Program)(rest:Rest)(O:Array Goroutine)(i:Nat)(g:Goroutine)(cases:Array CommCase)(b:Bool)(L:CommShape)(w:World):X9 w.drawn (communicate p rest O i g cases b L w).1:=by
 unfold communicate;simp only
 repeat' (first
  |exact Bv _
  |trivial
  |(rename_i J;exact Nat.le_of_eq (F4i J).symm)
  |(rename_i J;exact Mu J)
  |(have E:=Mu (p:=p) (w:=w) (by assumption);exact E)
  |(have E:=Mu (p:=p) (w:=w) (by assumption);have I:=F4j (p:=p) (by assumption);exact Cy E I)
  |(have E:=Mu (p:=p) (w:=w) (by assumption);have I:=Mu (p:=p) (by assumption);exact Cy E I)
  |split)
def ib(p:Program)(E:Array Goroutine)(rest:Rest)(w:World):X9 w.drawn (look p E rest w):=by unfold look;split;simp only;split;trivial;split;trivial;split;rename_i J;have I:=Mu (p:=p) (w:=w) J;exact I;trivial;trivial;trivial
def G7f(w:World)(c:Nat):(drain w c).2.drawn=w.drawn:=by unfold drain;split <;> rfl
def F9a{m:Machine}{op:TimerOp}{r:Value × Machine}(h:timerOp m op=.ok r):r.2.world.drawn=m.world.drawn:=by
 have E:∀(m:Machine) k t a b,(retime m k t a b).2.world.drawn=m.world.drawn:=λm k t a b=>by
  unfold retime;cases t.chan with
  |none=>rfl
  |some c=>exact G7f m.world c
 have J:∀(L:Machine) var f,(∀k t,(f k t).2.world.drawn=m.world.drawn)->∀r,timerOp.named L var f=.ok r->r.2.world.drawn=m.world.drawn:=λL var f O r hr=>by unfold timerOp.named at hr;split at hr;cases hr;exact O _ _;cases hr
 unfold timerOp at h;split at h;split at h;cases h;rfl;split at h;split at h;cases h;cases h;rfl;cases h;exact J _ _ _ (λ_ _=>E _ _ _ _ _) _ h
 .split at h
  .rename_i L I;have U:L.world.drawn=m.world.drawn:=by unfold timerOp.opened at I;split at I;split at I;cases I;rfl;cases I;cases I;rfl
   exact J _ _ _ (λ_ _=>(E _ _ _ _ _).trans U) _ h
  cases h
 cases h;rfl
def F5y(p:Program)(m:Machine)(k:Nat):X9 m.world.drawn (serve p m k):=by
 unfold serve;simp only
 repeat' (first
  |exact Bv _
  |trivial
  |split)
def G1d(p:Program)(m:Machine)(i:Nat)(E:Bool):X9 m.world.drawn (Go.runT p m i E).1:=by
 unfold Go.runT;simp only;have h:=F4u p (i ==0) (m.gs.swapAt! i { (default:Goroutine)with status:=.finished }).1 m.world E;generalize stepG p (i ==0) (m.gs.swapAt! i { (default:Goroutine)with status:=.finished }).1 m.world E=s at h;cases s with
 |ended o w es=>trivial
 |comm g cases b sh w es=>exact(F6g _ _ _ _ _ _ _ _ _).mono h
 |go g w es=>exact h
 |spawn g c w es=>exact h
 |count g w es =>simp only;split;trivial;exact h
 |alone g on w es=>exact h
 |collect g w es=>exact(ib _ _ _ _).mono h
 |watch g w es=>exact h
 |newcoro g c d w es=>exact h
 |coroswitch g c e w es =>simp only;split;exact h;exact h;trivial
 |timer g op w es =>simp only;split;rename_i v L J;have I:=F9a J;simp only at I;exact Cy h (Nat.le_of_eq I.symm);exact h;trivial;trivial
def kE(d:Nat):Move->Prop
 |.goroutine m _=>d<=m.world.drawn
 |.machine s _=>X9 d s
def kE.mono{d E:Nat}(h:d<=E):∀{g:Move},kE E g->kE d g:=by intro g;cases g <;> simp only[kE];exact Cy h;exact X9.mono h
def OS(p:Program)(m:Machine):kE m.world.drawn (askOn p m):=by
 unfold askOn
 extract_lets mono rs ds pick
 have hp:∀L:Machine,kE L.world.drawn (pick L):=λL=>by simp only[pick];split;trivial;rename_i J;have J:=Mu (p:=p) J;split;exact J;split;trivial;rename_i E;have E:=Mu (p:=p) E;exact Cy J E
 clear_value pick
 split
 .trivial
 .rename_i k U O;have J:=Mu (p:=p) O
  extract_lets m1
  have I:m.world.drawn<=m1.world.drawn:=J
  clear_value m1 rs
  split
  .exact(F5y p m1 _).mono I
  .cases rs with
   |nil =>
    simp only;split
    .exact I
    .split
     .exact I
     .split <;> trivial
   |cons r rs =>
    simp only;split
    .exact(hp m1).mono I
    .split
     .trivial
     .rename_i E;have E:=Mu (p:=p) E;exact(hp _).mono (Cy J E)
     .rename_i E;have E:=Mu (p:=p) E;exact Cy J E
     .rename_i E;have E:=Mu (p:=p) E;exact(hp _).mono (Cy J E)
def Oj(p:Program)(m:Machine):kE m.world.drawn (ask p m):=by
 unfold ask;split
 .split;trivial
  .rename_i J;have I:=Mu (p:=p) J;have L:=ib p m.gs m.rest;split
   .rename_i O U;have E:=L _ |>.mono I
    rw[U]at E;exact(OS p O).mono E
   .have E:=L _ |>.mono I
    exact E
  rename_i J;have I:=Mu (p:=p) J;exact(OS p _).mono I
 exact OS _ _
def G2h(p:Program)(m:Machine):kE m.world.drawn (move p m):=by unfold move;split;split;exact Bv _;trivial;split;split;exact Bv _;exact Oj p { m with rest:={ m.rest with slice:=none } };exact Oj _ _
def G6o(p:Program)(m:Machine):X9 m.world.drawn (step p m):=by
 unfold step stepT;have h:=G2h p m;generalize move p m=mv at h;cases mv with
 |goroutine E i=>exact(G1d p E i true).mono h
 |machine s ops=>exact h
def zm(p:Program):∀(n:Nat)(m:Machine),X9 m.world.drawn (runN p n m)
 |0,m=>Bv _
 |n+1,m=>by
  rw[runN];have h:=G6o p m;split;rename_i I E;rw[E]at h;exact(zm p n I).mono h
  .rename_i E;cases hs:step p m with
   |next I=>exact(E I hs).elim
   |ended o w=>trivial
def Calls.drawn{P:Program}{f:FuncId}{args:Array Value}{w:World}{R:Ending->World->Prop}(h:Calls P f args w R):Calls P f args w λe w'=>R e w'/\((∃v,e=.returned v)->w.drawn<=w'.drawn):=λcs=>by obtain⟨e,w',J,O,E,I⟩:=h cs;refine⟨e,w',J,⟨O,?_⟩,E,I⟩;rintro⟨v,rfl⟩;obtain⟨n,L⟩:=E;have:=zm P n (lone (Frame.enter P f args .normal) cs w);rw[L]at this;exact this
end Go.iA
namespace Go.iA
open Go Go.Sort
variable {P:Program}
def mz{w w':World}(h:RowKit.Below w.heap.size w w')(hd:w.drawn<=w'.drawn):∃q E,w'=grow (w.drewN q) E:=by obtain⟨⟨d,os⟩,I⟩:=regrown_of_below h;subst I;refine⟨d - w.drawn,os,?_⟩;have J:w.drawn<=d:=hd;simp only[grow,redrawn,World.drewN,show w.drawn+(d - w.drawn)=d by omega]
def Ab.grown{f:FuncId}{args:List SV}{c:Int}(h:Ab P f args (.d (.int .i64 c))){W:World}{β:Names}{vs:List Value}(J:C7 (all W) W β args vs){sy ra:TypeId × Value}(ht:∀b cs,qJ sy ra b cs->∃ty L,W.heap[b]?=some (.cells cs ty L)) :Calls P f ⟨vs⟩ W λe I=>e=.returned (.int .i64 c)/\∃q E,I=grow (W.drewN q) E:=by refine(Calls.drawn (h.calls J ht)).mono ?_;rintro e I ⟨⟨v,S',β',rfl,hr,O⟩,hd⟩;refine⟨?_,mz O (hd ⟨_,rfl⟩)⟩;have U:=hr.Js;cases U;rfl
end Go.iA
