/- the tape is never asked less: every step of the machine draws at least nothing -/
import Derived.RunT
import Derived.Test.YtjneockcgjfhaaaGreatDoorKDec
import Derived.Lib.QuietBelow
set_option linter.all false
set_option maxHeartbeats 2000000
set_option maxRecDepth 100000
namespace Go.Abs
open Go
def RLe{α:Type}(d:Nat):Result α->Prop
 |.ok _ w=>d<=w.drawn
 |.halt _ w=>d<=w.drawn
def Jp(d:Nat):GStep->Prop
 |.go _ w _| .comm _ _ _ _ w _| .spawn _ _ w _| .count _ w _| .timer _ _ w _| .alone _ _ w _| .newcoro _ _ _ w _| .coroswitch _ _ _ w _| .collect _ w _| .watch _ w _=>d<=w.drawn
 |.ended ..=>True
def Vg(d:Nat):Stepped->Prop
 |.next m=>d<=m.world.drawn
 |.ended ..=>True
def C4n{α:Type}:∀(x:Ask α)(w:World),w.drawn<=(w.ask x).2.drawn
 |.done a,w=>Bq _
 |.ask I E k,w=>by rw[World.ask];split;exact C4n _ _;exact Dd (Nat.le_succ _) (C4n (k _) { w with drawn:=w.drawn+1 })
def E7p(w:World)(c:Sys):w.drawn<=(w.sys c).2.drawn:=by unfold World.sys;have h:=C4n (Kernel.perform c w.os) w;split;exact Bq _;rename_i r os w' _ E;rw[E]at h;exact h
def E8n{p:Program}{w:World}{at_:Addr}{u:TypeId}{k:Addr}{v:Value}{a:Bool}{r:World × List Addr}(h:w.viewStore p at_ u k v a=.ok r):r.1.drawn=w.drawn:=by
 unfold World.viewStore at h;simp only[bind,Except.bind,pure,Except.pure,throw,throwThe,MonadExceptOf.throw]at h
 repeat' (split at h)
 all_goals (first| (cases h;done)| (cases h;rfl)|skip)
def G4v{p:Program}{w:World}{a:Addr}{v:Value}{b:Bool}{r:World × List Addr}(h:w.farStore p a v b=.ok r):r.1.drawn=w.drawn:=by unfold World.farStore at h;split at h;split at h;rename_i E hr;cases h;exact E8n hr;cases h;cases h
def B2f{α:Type}(p:Program):∀(s:Sem α)(w:World)(es:Array Event),RLe w.drawn (s.runT p w es).1:=by
 intro s
 induction s with
 |pure a=>intro w es;exact Bq _
 |load m a k E =>intro w es;rw[Sem.runT];split;exact E _ _ _;split;exact E _ _ _;exact Bq _
 |store m a v k E =>
  intro w es;have key:∀r:Result α × Array Event,(r=(Result.halt (.stuck "store: not the value of one cell") w,es) \/ ((∃I,r=k.runT p (w.setCell a v) I)\/(∃w' I,w'.drawn=w.drawn/\r=k.runT p w' I)\/∃h,r=(Result.halt h w,es)))->RLe w.drawn r.1:=by rintro r (rfl|⟨I,rfl⟩|⟨w',I,h,rfl⟩|⟨h,rfl⟩);exact Bq _;exact E (w.setCell a v) _;have:=E w' I;rw[h]at this;exact this;exact Bq _
  refine key _ ?_;cases v <;> first|exact .inl rfl| (
   refine .inr ?_;rw[Sem.runT]
   .split
    .split
     .exact .inr (.inr ⟨_,rfl⟩)
     .exact .inl ⟨_,rfl⟩
    .split
     .rename_i J;exact .inr (.inl ⟨_,_,G4v J,rfl⟩)
     .exact .inr (.inr ⟨_,rfl⟩)
   all_goals (intro _ h;cases h))
 |new o k E=>intro w es;exact E _ { w with heap:=w.heap.push o } _
 |shape r k E=>intro w es;exact E _ _ _
 |freeze a n k E =>
  intro w es;have h:(w.freeze a n).drawn=w.drawn:=by unfold World.freeze;split <;> rfl
  have:=E (w.freeze a n) es;rw[h]at this;exact this
 |frozen a k E=>intro w es;exact E _ _ _
 |getObj r k E =>intro w es;rw[Sem.runT];split;exact Bq _;exact E _ _ _;exact Bq _
 |setObj r o k E =>intro w es;rw[Sem.runT];split;exact Bq _;exact E { w with heap:=w.heap.setIfInBounds r o } _;exact Bq _
 |choose q k E =>intro w es;rw[Sem.runT];split;exact E _ _ _;have:=E (q.cut (w.tape w.drawn q)) { w with drawn:=w.drawn+1 } es;revert this;generalize((k (q.cut (w.tape w.drawn q))).runT p { w with drawn:=w.drawn+1 } es).1=r;cases r <;> (simp only[RLe];omega)
 |sys c k E =>intro w es;rw[Sem.runT];have L:=E7p w c;have:=E (w.sys c).1 (w.sys c).2 (es.push ⟨.output,true,false⟩);revert this;generalize((k (w.sys c).1).runT p (w.sys c).2 (es.push ⟨.output,true,false⟩)).1=r;cases r <;> (simp only[RLe];omega)
 |program k E=>intro w es;exact E _ _ _
 |mark m k E=>intro w es;exact E _ _
 |halt h=>intro w es;exact Bq _
def C2f{α:Type}(p:Program)(s:Sem α)(w:World):RLe w.drawn (s.run p w):=by
 have:=B2f p s w #[]
 rwa [Sem.runT_fst]at this
def M4{α:Type}{p:Program}{s:Sem α}{w w':World}{a:α}(h:s.run p w=.ok a w'):w.drawn<=w'.drawn:=by have:=C2f p s w;rw[h]at this;exact this
def G5c{α:Type}{p:Program}{s:Sem α}{w w':World}{a:Halt}(h:s.run p w=.halt a w'):w.drawn<=w'.drawn:=by have:=C2f p s w;rw[h]at this;exact this
def A3s{α:Type}{p:Program}{s:Sem α}{w w':World}{a:α}{es E:Array Event}(h:s.runT p w es=(.ok a w',E)):w.drawn<=w'.drawn:=by have:=B2f p s w es;rw[h]at this;exact this
def C3t{α:Type}{p:Program}{s:Sem α}{w w':World}{a:Halt}{es E:Array Event}(h:s.runT p w es=(.halt a w',E)):w.drawn<=w'.drawn:=by have:=B2f p s w es;rw[h]at this;exact this
def Jp.mono{d E:Nat}(h:d<=E):∀{g:GStep},Jp E g->Jp d g:=by intro g;cases g <;> simp only[Jp] <;> first|exact Dd h|exact λ_=>trivial
def B0c{d:Nat}{es:Array Event}{g:GStep}(h:Jp d g):Jp d (GStep.after es g):=by cases g <;> exact h
def F4d(d:Nat)(w:World)(fd:Nat)(t:ByteArray)(o:Outcome):Jp d (endWith w fd t o):=by
 unfold endWith;simp only
 repeat' split
 all_goals trivial
def F2n(E:Frame)(a:List ByteArray)(m:String)(b:Bool)(w:World):Jp w.drawn (dieOf E a m b w):=Bq _
def C0d(E:Frame)(m:String)(w:World):Jp w.drawn (endThrow E m w):=Bq _
def C9b(p:Program)(E:Frame)(v:Value)(w:World):Jp w.drawn (endPrinting p E v w):=by unfold endPrinting;simp only;split;exact C0d _ _ _;trivial
def D1h(p:Program)(J:Frame)(cs:List Frame)(I:Option Dying)(m:String)(w:World):Jp w.drawn (endFatal p J cs I m w):=by unfold endFatal;simp only;split;rename_i E;exact(F2n _ _ _ _ _).mono (M4 E);trivial;trivial
def G4p(p:Program)(I:Frame)(d:Dying)(f:Fatal)(w:World):Jp w.drawn (writeOn p I d f w):=by unfold writeOn;simp only;split;trivial;split;rename_i E;exact A3s E;rename_i E;exact C3t E;trivial;trivial
def F4o(p:Program)(I:Frame)(d:Dying)(w:World):Jp w.drawn (die p I d w):=by unfold die;split;exact G4p _ _ _ _ _;split;split;exact Bq _;exact F4d _ _ _ _ _;simp only;split;exact Bq _;split;rename_i E;exact M4 E;trivial;refine B0c ?_;split;rename_i E;exact A3s (Prod.ext E rfl);rename_i E;exact A3s (Prod.ext E rfl);trivial;rename_i E;exact(C9b _ _ _ _).mono (C3t (Prod.ext E rfl));trivial;trivial
def C4h(p:Program)(main:Bool)(I:Frame)(cs:List Frame)(E:Option Dying)(v:Value)(w:World):Jp w.drawn (doReturn p main I cs E v w):=by unfold doReturn;split;split <;> exact Bq _;split;exact Bq _;trivial;split;exact Bq _;split;exact Bq _;trivial
def A5a{d:Nat}{c:Prop}[Decidable c] {a b:GStep}(I:Jp d a)(E:Jp d b):Jp d (if c then a else b):=by split;exact I;exact E
def F2s(p:Program)(I:Frame)(cs:List Frame)(E:Option Dying)(d:Deferred)(w:World):Jp w.drawn (callDeferred p I cs E d w):=by
 unfold callDeferred;refine A5a trivial ?_
 .simp only;have h:=B2f p (invoke d.target d.args) w #[];generalize(invoke d.target d.args).runT p w #[]=re at h;obtain⟨r,es⟩:=re;refine B0c ?_;simp only at h |-
  repeat' split
  all_goals first|exact h|trivial|exact(D1h _ _ _ _ _ _).mono h|exact(C0d _ _ _).mono h
def G1v(p:Program)(main:Bool)(J:Frame)(cs:List Frame)(I:Option Dying)(w:World):Jp w.drawn (unwind p main J cs I w):=by unfold unwind;split;refine B0c ?_;split;rename_i E;exact A3s (Prod.ext E rfl);trivial;exact F2s _ _ _ _ _ _;split;trivial;split;trivial;split;exact Bq _;split;split;exact Bq _;split;rename_i E;exact M4 E;trivial;trivial;split;exact C9b _ _ _ _;trivial;split;exact C4h _ _ _ _ _ _ _;refine B0c ?_;split;rename_i E;exact(C4h _ _ _ _ _ _ _).mono (A3s (Prod.ext E rfl));trivial;trivial
def E9q(p:Program)(J:Frame)(cs:List Frame)(O:Option Dying)(g:Nat)(w:World):Jp w.drawn (early p J cs O g w):=by
 unfold early;simp only;have E:∀w':World,w.drawn<=w'.drawn->Jp w.drawn (match w'.heap[g]? with
  |some (.pending c I)=>GStep.go { frame:=J,callers:=cs,status:=.running,dying:=O } { w' with heap:=w'.heap.setIfInBounds g (.cells c I) } #[]
  |_=>.ended (.stuck "early: the variable does not wait" (J.pos p)) w' #[]):=λw' h=>by
  split
  .exact h
  .trivial
 refine A5a (E _ (Bq _)) ?_;split;trivial;refine A5a (E _ (Bq _)) (A5a (E _ (Bq _)) ?_);split;trivial;exact Bq _;trivial;exact E _ (Bq _);refine A5a (Bq _) (A5a (E _ (Bq _)) ?_);split;rename_i L;exact E _ (M4 L);rename_i L;exact M4 L;trivial
def C2m(p:Program)(E:Bool)(J:Frame)(cs:List Frame)(I:Option Dying)(s:Sem Next)(w:World):Jp w.drawn (stepG.apply p E J cs I s w):=by
 unfold stepG.apply;simp only;have h:RLe w.drawn (if E then s.runT p w #[]else(s.run p w,#[])).1:=by split;exact B2f p s w #[];exact C2f p s w
 generalize(if E then s.runT p w #[]else(s.run p w,#[]))=re at h;obtain⟨r,es⟩:=re;refine B0c ?_;simp only at h |-;split
 all_goals first
  |exact h
  |trivial
  |exact(D1h _ _ _ _ _ _).mono h
  |exact(C0d _ _ _).mono h
  |exact(E9q _ _ _ _ _ _).mono h
  |(refine A5a ((C0d _ _ _).mono h) h;done)
  |(split <;> exact h)
def F0a(p:Program)(J:Bool)(I:Frame)(cs:List Frame)(E:Option Dying)(w:World):Jp w.drawn (stepG.oper p J I cs E w):=by unfold stepG.oper;split;trivial;split <;> exact C2m _ _ _ _ _ _ _
def G7k(p:Program)(main L:Bool)(J:Frame)(cs:List Frame)(I:Option Dying)(w:World):Jp w.drawn (stepG.exec p main L J cs I w):=by
 unfold stepG.exec;simp only;split;all_goals (try unfold Option.elim)
 all_goals (repeat' (first
  |exact C2m _ _ _ _ _ _ _
  |exact F0a _ _ _ _ _ _
  |(rename_i E;exact(C2m _ _ _ _ _ _ _).mono (A3s (Prod.ext E rfl)))
  |(rename_i E;exact(C4h _ _ _ _ _ _ _).mono (A3s (Prod.ext E rfl)))
  |(rename_i E;exact M4 E)
  |(rename_i E;exact A3s (Prod.ext E rfl))
  |(rename_i E;exact C3t (Prod.ext E rfl))
  |exact Bq _
  |trivial
  |refine B0c ?_
  |split))
def G0f(p:Program)(main:Bool)(g:Goroutine)(w:World)(E:Bool):Jp w.drawn (stepG p main g w E):=by unfold stepG;simp only;split;exact F4o _ _ _ _;exact G7k _ _ _ _ _ _ _;exact G1v _ _ _ _ _ _
def Vg.mono{d E:Nat}(h:d<=E):∀{g:Stepped},Vg E g->Vg d g:=by intro g;cases g <;> simp only[Vg] <;> first|exact Dd h|exact λ_=>trivial
def H0v{rest:Rest}{cs:Array CommCase}{w w':World}(h:waitingAt rest cs w=some w'):w'.drawn=w.drawn:=by unfold waitingAt at h;split at h;split at h;cases h;rfl;cases h;cases h;rfl
def H0j(p:Program)(rest:Rest)(L:Array Goroutine)(i:Nat)(g:Goroutine)(cases:Array CommCase)(b:Bool)(O:CommShape)(w:World):Vg w.drawn (communicate p rest L i g cases b O w).1:=by
 unfold communicate;simp only
 repeat' (first
  |exact Bq _
  |trivial
  |(rename_i I;exact Nat.le_of_eq (H0v I).symm)
  |(rename_i I;exact M4 I)
  |(have E:=M4 (p:=p) (w:=w) (by assumption);exact E)
  |(have E:=M4 (p:=p) (w:=w) (by assumption);have J:=G5c (p:=p) (by assumption);exact Dd E J)
  |(have E:=M4 (p:=p) (w:=w) (by assumption);have J:=M4 (p:=p) (by assumption);exact Dd E J)
  |split)
def C9s(p:Program)(J:Array Goroutine)(rest:Rest)(w:World):Vg w.drawn (look p J rest w):=by unfold look;split;simp only;split;trivial;split;trivial;split;rename_i I;have E:=M4 (p:=p) (w:=w) I;exact E;trivial;trivial;trivial
def G6o(w:World)(c:Nat):(drain w c).2.drawn=w.drawn:=by unfold drain;split <;> rfl
def F8e{m:Machine}{op:TimerOp}{r:Value × Machine}(h:timerOp m op=.ok r):r.2.world.drawn=m.world.drawn:=by
 have E:∀(m:Machine) k t a b,(retime m k t a b).2.world.drawn=m.world.drawn:=λm k t a b=>by
  unfold retime;cases t.chan with
  |none=>rfl
  |some c=>exact G6o m.world c
 have J:∀(L:Machine) var f,(∀k t,(f k t).2.world.drawn=m.world.drawn)->∀r,timerOp.named L var f=.ok r->r.2.world.drawn=m.world.drawn:=λL var f U r hr=>by unfold timerOp.named at hr;split at hr;cases hr;exact U _ _;cases hr
 unfold timerOp at h;split at h;split at h;cases h;rfl;split at h;split at h;cases h;cases h;rfl;cases h;exact J _ _ _ (λ_ _=>E _ _ _ _ _) _ h
 .split at h
  .rename_i L I;have O:L.world.drawn=m.world.drawn:=by unfold timerOp.opened at I;split at I;split at I;cases I;rfl;cases I;cases I;rfl
   exact J _ _ _ (λ_ _=>(E _ _ _ _ _).trans O) _ h
  cases h
 cases h;rfl
def G0m(p:Program)(m:Machine)(k:Nat):Vg m.world.drawn (serve p m k):=by
 unfold serve;simp only
 repeat' (first
  |exact Bq _
  |trivial
  |split)
def G8i(p:Program)(m:Machine)(i:Nat)(E:Bool):Vg m.world.drawn (Go.runT p m i E).1:=by
 unfold Go.runT;simp only;have h:=G0f p (i ==0) (m.gs.swapAt! i { (default:Goroutine)with status:=.finished }).1 m.world E;generalize stepG p (i ==0) (m.gs.swapAt! i { (default:Goroutine)with status:=.finished }).1 m.world E=s at h;cases s with
 |ended o w es=>trivial
 |comm g cases b sh w es=>exact(H0j _ _ _ _ _ _ _ _ _).mono h
 |go g w es=>exact h
 |spawn g c w es=>exact h
 |count g w es =>simp only;split;trivial;exact h
 |alone g on w es=>exact h
 |collect g w es=>exact(C9s _ _ _ _).mono h
 |watch g w es=>exact h
 |newcoro g c d w es=>exact h
 |coroswitch g c e w es =>simp only;split;exact h;exact h;trivial
 |timer g op w es =>simp only;split;rename_i v L J;have I:=F8e J;simp only at I;exact Dd h (Nat.le_of_eq I.symm);exact h;trivial;trivial
def MLe(d:Nat):Move->Prop
 |.goroutine m _=>d<=m.world.drawn
 |.machine s _=>Vg d s
def MLe.mono{d E:Nat}(h:d<=E):∀{g:Move},MLe E g->MLe d g:=by intro g;cases g <;> simp only[MLe];exact Dd h;exact Vg.mono h
def C8q(p:Program)(m:Machine):MLe m.world.drawn (askOn p m):=by
 unfold askOn
 extract_lets mono rs ds pick
 have L:∀O:Machine,MLe O.world.drawn (pick O):=λO=>by simp only[pick];split;trivial;rename_i I;have I:=M4 (p:=p) I;split;exact I;split;trivial;rename_i E;have E:=M4 (p:=p) E;exact Dd I E
 clear_value pick
 split
 .trivial
 .rename_i k w1 U;have I:=M4 (p:=p) U;clear U
  extract_lets m1
  have J:m.world.drawn<=m1.world.drawn:=I
  clear_value m1 rs
  split
  .exact(G0m p m1 _).mono J
  .cases rs with
   |nil =>
    simp only;split
    .exact J
    .split
     .exact J
     .split <;> trivial
   |cons r rs =>
    simp only;split
    .exact(L m1).mono J
    .split
     .trivial
     .rename_i E;have E:=M4 (p:=p) E;exact(L _).mono (Dd I E)
     .rename_i E;have E:=M4 (p:=p) E;exact Dd I E
     .rename_i E;have E:=M4 (p:=p) E;exact(L _).mono (Dd I E)
def D4u(p:Program)(m:Machine):MLe m.world.drawn (ask p m):=by
 unfold ask;split
 .split;trivial
  .rename_i J;have E:=M4 (p:=p) J;have L:=C9s p m.gs m.rest;split
   .rename_i U O;have I:=L _ |>.mono E
    rw[O]at I;exact(C8q p U).mono I
   .have I:=L _ |>.mono E
    exact I
  rename_i J;have E:=M4 (p:=p) J;exact(C8q p _).mono E
 exact C8q _ _
def G9m(p:Program)(m:Machine):MLe m.world.drawn (move p m):=by unfold move;split;split;exact Bq _;trivial;split;split;exact Bq _;exact D4u p { m with rest:={ m.rest with slice:=none } };exact D4u _ _
def E7i(p:Program)(m:Machine):Vg m.world.drawn (step p m):=by
 unfold step stepT;have h:=G9m p m;generalize move p m=mv at h;cases mv with
 |goroutine E i=>exact(G8i p E i true).mono h
 |machine s ops=>exact h
def D2n(p:Program):∀(n:Nat)(m:Machine),Vg m.world.drawn (runN p n m)
 |0,m=>Bq _
 |n+1,m=>by
  rw[runN];have h:=E7i p m;split;rename_i I E;rw[E]at h;exact(D2n p n I).mono h
  .rename_i E;cases hs:step p m with
   |next I=>exact(E I hs).elim
   |ended o w=>trivial
def Calls.drawn{P:Program}{f:FuncId}{args:Array Value}{w:World}{R:Ending->World->Prop}(h:Calls P f args w R):Calls P f args w λe w'=>R e w'/\((∃v,e=.returned v)->w.drawn<=w'.drawn):=λcs=>by obtain⟨e,w',L,I,E,J⟩:=h cs;refine⟨e,w',L,⟨I,?_⟩,E,J⟩;rintro⟨v,rfl⟩;obtain⟨n,O⟩:=E;have:=D2n P n (lone (Frame.enter P f args .normal) cs w);rw[O]at this;exact this
end Go.Abs
/- a contract of the own framework, as the shelf's laws on comparisons ask it: what was there stays, the tape is asked some more -/
namespace Go.Abs
open Go Go.Sort
variable {P:Program}
def F7n{w w':World}(h:RowKit.Below w.heap.size w w')(hd:w.drawn<=w'.drawn):∃q E,w'=grow (w.drewN q) E:=by obtain⟨⟨d,os⟩,I⟩:=regrown_of_below h;subst I;refine⟨d - w.drawn,os,?_⟩;have J:w.drawn<=d:=hd;simp only[grow,redrawn,World.drewN,show w.drawn+(d - w.drawn)=d by omega]
def Ab.grown{f:FuncId}{args:List SV}{c:Int}(h:Ab P f args (.d (.int .i64 c))){W:World}{β:Names}{vs:List Value}(J:Bz (all W) W β args vs){sy ra:TypeId × Value}(ht:∀b cs,A2s sy ra b cs->∃ty U,W.heap[b]?=some (.cells cs ty U)) :Calls P f ⟨vs⟩ W λe I=>e=.returned (.int .i64 c)/\∃q E,I=grow (W.drewN q) E:=by refine(Calls.drawn (h.calls J ht)).mono ?_;rintro e I ⟨⟨v,S',β',rfl,hr,L⟩,hd⟩;refine⟨?_,F7n L (hd ⟨_,rfl⟩)⟩;have O:=hr.Gq;cases O;rfl
end Go.Abs
