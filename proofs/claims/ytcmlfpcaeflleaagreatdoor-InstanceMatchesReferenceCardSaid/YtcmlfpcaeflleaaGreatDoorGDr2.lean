/- the tape is never asked less: every step of the machine draws at least nothing -/
import Derived.RunT
import Derived.Test.YtcmlfpcaeflleaaGreatDoorGDec
import Derived.Lib.QuietBelow
set_option linter.all false
set_option maxHeartbeats 2000000
set_option maxRecDepth 100000
namespace Go.Abs
open Go
def RLe{α:Type}(d:Nat):Result α->Prop
 |.ok _ w=>d<=w.drawn
 |.halt _ w=>d<=w.drawn
def Jn(d:Nat):GStep->Prop
 |.go _ w _| .comm _ _ _ _ w _| .spawn _ _ w _| .count _ w _| .timer _ _ w _| .alone _ _ w _| .newcoro _ _ _ w _| .coroswitch _ _ _ w _| .collect _ w _| .watch _ w _=>d<=w.drawn
 |.ended ..=>True
def Vz(d:Nat):Stepped->Prop
 |.next m=>d<=m.world.drawn
 |.ended ..=>True
def C9i{α:Type}:∀(x:Ask α)(w:World),w.drawn<=(w.ask x).2.drawn
 |.done a,w=>Bi _
 |.ask I E k,w=>by
  rw[World.ask];split
  .exact C9i _ _
  .exact D3 (Nat.le_succ _) (C9i (k _) { w with drawn:=w.drawn+1 })
def F8s(w:World)(c:Sys):w.drawn<=(w.sys c).2.drawn:=by
 unfold World.sys;have h:=C9i (Kernel.perform c w.os) w;split
 .exact Bi _
 .rename_i r os w' _ E;rw[E]at h;exact h
def G8g{p:Program}{w:World}{at_:Addr}{u:TypeId}{k:Addr}{v:Value}{a:Bool}{r:World × List Addr}(h:w.viewStore p at_ u k v a=.ok r):r.1.drawn=w.drawn:=by
 unfold World.viewStore at h;simp only[bind,Except.bind,pure,Except.pure,throw,throwThe,MonadExceptOf.throw]at h
 repeat' (split at h)
 all_goals (first| (cases h;done)| (cases h;rfl)|skip)
def E9i{p:Program}{w:World}{a:Addr}{v:Value}{b:Bool}{r:World × List Addr}(h:w.farStore p a v b=.ok r):r.1.drawn=w.drawn:=by
 unfold World.farStore at h;split at h
 .split at h
  .rename_i E hr;cases h;exact G8g hr
  .cases h
 .cases h
def B5c{α:Type}(p:Program):∀(s:Sem α)(w:World)(es:Array Event),RLe w.drawn (s.runT p w es).1:=by
 intro s
 induction s with
 |pure a=>intro w es;exact Bi _
 |load m a k E =>
  intro w es;rw[Sem.runT];split
  .exact E _ _ _
  .split
   .exact E _ _ _
   .exact Bi _
 |store m a v k E =>
  intro w es
  have key:∀r:Result α × Array Event,(r=(Result.halt (.stuck "store: not the value of one cell") w,es) \/
    ((∃I,r=k.runT p (w.setCell a v) I)\/(∃w' I,w'.drawn=w.drawn/\r=k.runT p w' I)\/∃h,r=(Result.halt h w,es)))->RLe w.drawn r.1:=by
   rintro r (rfl|⟨I,rfl⟩|⟨w',I,h,rfl⟩|⟨h,rfl⟩)
   .exact Bi _
   .exact E (w.setCell a v) _
   .have:=E w' I;rw[h]at this;exact this
   .exact Bi _
  refine key _ ?_;cases v <;> first|exact .inl rfl| (
   refine .inr ?_;rw[Sem.runT]
   .split
    .split
     .exact .inr (.inr ⟨_,rfl⟩)
     .exact .inl ⟨_,rfl⟩
    .split
     .rename_i J;exact .inr (.inl ⟨_,_,E9i J,rfl⟩)
     .exact .inr (.inr ⟨_,rfl⟩)
   all_goals (intro _ h;cases h))
 |new o k E=>intro w es;exact E _ { w with heap:=w.heap.push o } _
 |shape r k E=>intro w es;exact E _ _ _
 |freeze a n k E =>
  intro w es;have h:(w.freeze a n).drawn=w.drawn:=by unfold World.freeze;split <;> rfl
  have:=E (w.freeze a n) es;rw[h]at this;exact this
 |frozen a k E=>intro w es;exact E _ _ _
 |getObj r k E =>
  intro w es;rw[Sem.runT];split
  .exact Bi _
  .exact E _ _ _
  .exact Bi _
 |setObj r o k E =>
  intro w es;rw[Sem.runT];split
  .exact Bi _
  .exact E { w with heap:=w.heap.setIfInBounds r o } _
  .exact Bi _
 |choose q k E =>
  intro w es;rw[Sem.runT];split
  .exact E _ _ _
  .have:=E (q.cut (w.tape w.drawn q)) { w with drawn:=w.drawn+1 } es;revert this;generalize((k (q.cut (w.tape w.drawn q))).runT p { w with drawn:=w.drawn+1 } es).1=r;cases r <;> (simp only[RLe];omega)
 |sys c k E =>intro w es;rw[Sem.runT];have L:=F8s w c;have:=E (w.sys c).1 (w.sys c).2 (es.push ⟨.output,true,false⟩);revert this;generalize((k (w.sys c).1).runT p (w.sys c).2 (es.push ⟨.output,true,false⟩)).1=r;cases r <;> (simp only[RLe];omega)
 |program k E=>intro w es;exact E _ _ _
 |mark m k E=>intro w es;exact E _ _
 |halt h=>intro w es;exact Bi _
def D0f{α:Type}(p:Program)(s:Sem α)(w:World):RLe w.drawn (s.run p w):=by
 have:=B5c p s w #[]
 rwa [Sem.runT_fst]at this
def M8{α:Type}{p:Program}{s:Sem α}{w w':World}{a:α}(h:s.run p w=.ok a w'):w.drawn<=w'.drawn:=by have:=D0f p s w;rw[h]at this;exact this
def G2p{α:Type}{p:Program}{s:Sem α}{w w':World}{a:Halt}(h:s.run p w=.halt a w'):w.drawn<=w'.drawn:=by have:=D0f p s w;rw[h]at this;exact this
def A4i{α:Type}{p:Program}{s:Sem α}{w w':World}{a:α}{es E:Array Event}(h:s.runT p w es=(.ok a w',E)):w.drawn<=w'.drawn:=by have:=B5c p s w es;rw[h]at this;exact this
def C9e{α:Type}{p:Program}{s:Sem α}{w w':World}{a:Halt}{es E:Array Event}(h:s.runT p w es=(.halt a w',E)):w.drawn<=w'.drawn:=by have:=B5c p s w es;rw[h]at this;exact this
def Jn.mono{d E:Nat}(h:d<=E):∀{g:GStep},Jn E g->Jn d g:=by intro g;cases g <;> simp only[Jn] <;> first|exact D3 h|exact λ_=>trivial
def A9s{d:Nat}{es:Array Event}{g:GStep}(h:Jn d g):Jn d (GStep.after es g):=by cases g <;> exact h
def F9g(d:Nat)(w:World)(E:Nat)(t:ByteArray)(o:Outcome):Jn d (endWith w E t o):=by
 unfold endWith;simp only
 repeat' split
 all_goals trivial
def F6g(E:Frame)(a:List ByteArray)(m:String)(b:Bool)(w:World):Jn w.drawn (dieOf E a m b w):=Bi _
def C0d(E:Frame)(m:String)(w:World):Jn w.drawn (endThrow E m w):=Bi _
def D8q(p:Program)(E:Frame)(v:Value)(w:World):Jn w.drawn (endPrinting p E v w):=by
 unfold endPrinting;simp only;split
 .exact C0d _ _ _
 .trivial
def D6o(p:Program)(J:Frame)(cs:List Frame)(I:Option Dying)(m:String)(w:World):Jn w.drawn (endFatal p J cs I m w):=by
 unfold endFatal;simp only;split
 .rename_i E;exact(F6g _ _ _ _ _).mono (M8 E)
 .trivial
 .trivial
def F6o(p:Program)(I:Frame)(d:Dying)(f:Fatal)(w:World):Jn w.drawn (writeOn p I d f w):=by
 unfold writeOn;simp only;split
 .trivial
 .split
  .rename_i E;exact A4i E
  .rename_i E;exact C9e E
  .trivial
  .trivial
def G3g(p:Program)(I:Frame)(d:Dying)(w:World):Jn w.drawn (die p I d w):=by
 unfold die;split
 .exact F6o _ _ _ _ _
 .split
  .split
   .exact Bi _
   .exact F9g _ _ _ _ _
  .simp only;split
   .exact Bi _
   .split
    .rename_i E;exact M8 E
    .trivial
   .refine A9s ?_;split
    .rename_i E;exact A4i (Prod.ext E rfl)
    .rename_i E;exact A4i (Prod.ext E rfl)
    .trivial
    .rename_i E;exact(D8q _ _ _ _).mono (C9e (Prod.ext E rfl))
    .trivial
   .trivial
def D0r(p:Program)(main:Bool)(I:Frame)(cs:List Frame)(E:Option Dying)(v:Value)(w:World):Jn w.drawn (doReturn p main I cs E v w):=by
 unfold doReturn;split
 .split <;> exact Bi _
 .split
  .exact Bi _
  .trivial
  .split
   .exact Bi _
   .split
    .exact Bi _
    .trivial
def A5t{d:Nat}{c:Prop}[Decidable c] {a b:GStep}(E:Jn d a)(I:Jn d b):Jn d (if c then a else b):=by
 split
 .exact E
 .exact I
def G2k(p:Program)(I:Frame)(cs:List Frame)(E:Option Dying)(d:Deferred)(w:World):Jn w.drawn (callDeferred p I cs E d w):=by
 unfold callDeferred;refine A5t trivial ?_
 .simp only;have h:=B5c p (invoke d.target d.args) w #[];generalize(invoke d.target d.args).runT p w #[]=re at h;obtain⟨r,es⟩:=re;refine A9s ?_;simp only at h |-
  repeat' split
  all_goals first|exact h|trivial|exact(D6o _ _ _ _ _ _).mono h|exact(C0d _ _ _).mono h
def G8i(p:Program)(main:Bool)(J:Frame)(cs:List Frame)(I:Option Dying)(w:World):Jn w.drawn (unwind p main J cs I w):=by
 unfold unwind;split
 .refine A9s ?_;split
  .rename_i E;exact A4i (Prod.ext E rfl)
  .trivial
 .exact G2k _ _ _ _ _ _
 .split
  .trivial
  .split
   .trivial
   .split
    .exact Bi _
    .split
     .split
      .exact Bi _
      .split
       .rename_i E;exact M8 E
       .trivial
       .trivial
     .split
      .exact D8q _ _ _ _
      .trivial
  .split
   .exact D0r _ _ _ _ _ _ _
   .refine A9s ?_;split
    .rename_i E;exact(D0r _ _ _ _ _ _ _).mono (A4i (Prod.ext E rfl))
    .trivial
    .trivial
def F2c(p:Program)(J:Frame)(cs:List Frame)(M:Option Dying)(g:Nat)(w:World):Jn w.drawn (early p J cs M g w):=by
 unfold early;simp only;have E:∀w':World,w.drawn<=w'.drawn->Jn w.drawn (match w'.heap[g]? with
  |some (.pending c I)=>GStep.go { frame:=J,callers:=cs,status:=.running,dying:=M } { w' with heap:=w'.heap.setIfInBounds g (.cells c I) } #[]
  |_=>.ended (.stuck "early: the variable does not wait" (J.pos p)) w' #[]):=λw' h=>by
  split
  .exact h
  .trivial
 refine A5t (E _ (Bi _)) ?_;split
 .trivial
 .refine A5t (E _ (Bi _)) (A5t (E _ (Bi _)) ?_);split
  .trivial
  .exact Bi _
  .trivial
  .exact E _ (Bi _)
  .refine A5t (Bi _) (A5t (E _ (Bi _)) ?_);split
   .rename_i L;exact E _ (M8 L)
   .rename_i L;exact M8 L
   .trivial
def C6c(p:Program)(E:Bool)(J:Frame)(cs:List Frame)(I:Option Dying)(s:Sem Next)(w:World):Jn w.drawn (stepG.apply p E J cs I s w):=by
 unfold stepG.apply;simp only;have h:RLe w.drawn (if E then s.runT p w #[]else(s.run p w,#[])).1:=by
  split
  .exact B5c p s w #[]
  .exact D0f p s w
 generalize(if E then s.runT p w #[]else(s.run p w,#[]))=re at h;obtain⟨r,es⟩:=re;refine A9s ?_;simp only at h |-;split
 all_goals first
  |exact h
  |trivial
  |exact(D6o _ _ _ _ _ _).mono h
  |exact(C0d _ _ _).mono h
  |exact(F2c _ _ _ _ _ _).mono h
  |(refine A5t ((C0d _ _ _).mono h) h;done)
  |(split <;> exact h)
def H1y(p:Program)(J:Bool)(I:Frame)(cs:List Frame)(E:Option Dying)(w:World):Jn w.drawn (stepG.oper p J I cs E w):=by
 unfold stepG.oper;split
 .trivial
 .split <;> exact C6c _ _ _ _ _ _ _
def F9i(p:Program)(main J:Bool)(L:Frame)(cs:List Frame)(I:Option Dying)(w:World):Jn w.drawn (stepG.exec p main J L cs I w):=by
 unfold stepG.exec;simp only;split
 all_goals (try unfold Option.elim)
 all_goals (repeat' (first
  |exact C6c _ _ _ _ _ _ _
  |exact H1y _ _ _ _ _ _
  |(rename_i E;exact(C6c _ _ _ _ _ _ _).mono (A4i (Prod.ext E rfl)))
  |(rename_i E;exact(D0r _ _ _ _ _ _ _).mono (A4i (Prod.ext E rfl)))
  |(rename_i E;exact M8 E)
  |(rename_i E;exact A4i (Prod.ext E rfl))
  |(rename_i E;exact C9e (Prod.ext E rfl))
  |exact Bi _
  |trivial
  |refine A9s ?_
  |split))
def E7u(p:Program)(main:Bool)(g:Goroutine)(w:World)(E:Bool):Jn w.drawn (stepG p main g w E):=by
 unfold stepG;simp only;split
 .exact G3g _ _ _ _
 .exact F9i _ _ _ _ _ _ _
 .exact G8i _ _ _ _ _ _
def Vz.mono{d E:Nat}(h:d<=E):∀{g:Stepped},Vz E g->Vz d g:=by intro g;cases g <;> simp only[Vz] <;> first|exact D3 h|exact λ_=>trivial
def E7y{rest:Rest}{cs:Array CommCase}{w w':World}(h:waitingAt rest cs w=some w'):w'.drawn=w.drawn:=by
 unfold waitingAt at h;split at h
 .split at h
  .cases h;rfl
  .cases h
 .cases h;rfl
def F3h(p:Program)(rest:Rest)(M:Array Goroutine)(i:Nat)(g:Goroutine)(cases:Array CommCase)(b:Bool)(L:CommShape)(w:World):Vz w.drawn (communicate p rest M i g cases b L w).1:=by
 unfold communicate;simp only
 repeat' (first
  |exact Bi _
  |trivial
  |(rename_i J;exact Nat.le_of_eq (E7y J).symm)
  |(rename_i J;exact M8 J)
  |(have E:=M8 (p:=p) (w:=w) (by assumption);exact E)
  |(have E:=M8 (p:=p) (w:=w) (by assumption);have I:=G2p (p:=p) (by assumption);exact D3 E I)
  |(have E:=M8 (p:=p) (w:=w) (by assumption);have I:=M8 (p:=p) (by assumption);exact D3 E I)
  |split)
def D1b(p:Program)(E:Array Goroutine)(rest:Rest)(w:World):Vz w.drawn (look p E rest w):=by
 unfold look;split
 .simp only;split
  .trivial
  .split
   .trivial
   .split
    .rename_i J;have I:=M8 (p:=p) (w:=w) J;exact I
    .trivial
    .trivial
 .trivial
def G2i(w:World)(c:Nat):(drain w c).2.drawn=w.drawn:=by unfold drain;split <;> rfl
def F7y{m:Machine}{op:TimerOp}{r:Value × Machine}(h:timerOp m op=.ok r):r.2.world.drawn=m.world.drawn:=by
 have E:∀(m:Machine) k t a b,(retime m k t a b).2.world.drawn=m.world.drawn:=λm k t a b=>by
  unfold retime;cases t.chan with
  |none=>rfl
  |some c=>exact G2i m.world c
 have J:∀(L:Machine) var f,(∀k t,(f k t).2.world.drawn=m.world.drawn)->∀r,timerOp.named L var f=.ok r->r.2.world.drawn=m.world.drawn:=λL var f O r hr=>by
  unfold timerOp.named at hr;split at hr
  .cases hr;exact O _ _
  .cases hr
 unfold timerOp at h;split at h
 .split at h
  .cases h;rfl
  .split at h
   .split at h
    .cases h
    .cases h;rfl
   .cases h
 .exact J _ _ _ (λ_ _=>E _ _ _ _ _) _ h
 .split at h
  .rename_i L I;have M:L.world.drawn=m.world.drawn:=by
    unfold timerOp.opened at I;split at I
    .split at I
     .cases I;rfl
     .cases I
    .cases I;rfl
   exact J _ _ _ (λ_ _=>(E _ _ _ _ _).trans M) _ h
  .cases h
 .cases h;rfl
def F1i(p:Program)(m:Machine)(k:Nat):Vz m.world.drawn (serve p m k):=by
 unfold serve;simp only
 repeat' (first
  |exact Bi _
  |trivial
  |split)
def H1j(p:Program)(m:Machine)(i:Nat)(E:Bool):Vz m.world.drawn (Go.runT p m i E).1:=by
 unfold Go.runT;simp only;have h:=E7u p (i ==0) (m.gs.swapAt! i { (default:Goroutine)with status:=.finished }).1 m.world E;generalize stepG p (i ==0) (m.gs.swapAt! i { (default:Goroutine)with status:=.finished }).1 m.world E=s at h;cases s with
 |ended o w es=>trivial
 |comm g cases b sh w es=>exact(F3h _ _ _ _ _ _ _ _ _).mono h
 |go g w es=>exact h
 |spawn g c w es=>exact h
 |count g w es =>
  simp only;split
  .trivial
  .exact h
 |alone g on w es=>exact h
 |collect g w es=>exact(D1b _ _ _ _).mono h
 |watch g w es=>exact h
 |newcoro g c d w es=>exact h
 |coroswitch g c e w es =>
  simp only;split
  .exact h
  .exact h
  .trivial
 |timer g op w es =>
  simp only;split
  .rename_i v L J;have I:=F7y J;simp only at I;exact D3 h (Nat.le_of_eq I.symm)
  .exact h
  .trivial
  .trivial
def MLe(d:Nat):Move->Prop
 |.goroutine m _=>d<=m.world.drawn
 |.machine s _=>Vz d s
def MLe.mono{d E:Nat}(h:d<=E):∀{g:Move},MLe E g->MLe d g:=by
 intro g;cases g <;> simp only[MLe]
 .exact D3 h
 .exact Vz.mono h
def C6g(p:Program)(m:Machine):MLe m.world.drawn (askOn p m):=by
 unfold askOn
 extract_lets mono rs ds pick
 have hp:∀L:Machine,MLe L.world.drawn (pick L):=λL=>by
  simp only[pick];split
  .trivial
  .rename_i J;have J:=M8 (p:=p) J;split
   .exact J
   .split
    .trivial
    .rename_i E;have E:=M8 (p:=p) E;exact D3 J E
 clear_value pick
 split
 .trivial
 .rename_i k O M;have J:=M8 (p:=p) M;clear M
  extract_lets m1
  have I:m.world.drawn<=m1.world.drawn:=J
  clear_value m1 rs
  split
  .exact(F1i p m1 _).mono I
  .cases rs with
   |nil =>
    simp only;split
    .exact I
    .split
     .exact I
     .split <;> trivial
   |cons r rs =>
    simp only;split
    .exact(hp m1).mono I
    .split
     .trivial
     .rename_i E;have E:=M8 (p:=p) E;exact(hp _).mono (D3 J E)
     .rename_i E;have E:=M8 (p:=p) E;exact D3 J E
     .rename_i E;have E:=M8 (p:=p) E;exact(hp _).mono (D3 J E)
def E4b(p:Program)(m:Machine):MLe m.world.drawn (ask p m):=by
 unfold ask;split
 .split
  .trivial
  .rename_i J;have E:=M8 (p:=p) J;have L:=D1b p m.gs m.rest;split
   .rename_i O M;have I:=L _ |>.mono E
    rw[M]at I;exact(C6g p O).mono I
   .have I:=L _ |>.mono E
    exact I
  .rename_i J;have E:=M8 (p:=p) J;exact(C6g p _).mono E
 .exact C6g _ _
def G1k(p:Program)(m:Machine):MLe m.world.drawn (move p m):=by
 unfold move;split
 .split
  .exact Bi _
  .trivial
 .split
  .split
   .exact Bi _
   .exact E4b p { m with rest:={ m.rest with slice:=none } }
  .exact E4b _ _
def G8j(p:Program)(m:Machine):Vz m.world.drawn (step p m):=by
 unfold step stepT;have h:=G1k p m;generalize move p m=mv at h;cases mv with
 |goroutine E i=>exact(H1j p E i true).mono h
 |machine s ops=>exact h
def E3e(p:Program):∀(n:Nat)(m:Machine),Vz m.world.drawn (runN p n m)
 |0,m=>Bi _
 |n+1,m=>by
  rw[runN];have h:=G8j p m;split
  .rename_i I E;rw[E]at h;exact(E3e p n I).mono h
  .rename_i E;cases hs:step p m with
   |next I=>exact(E I hs).elim
   |ended o w=>trivial
def Calls.drawn{P:Program}{f:FuncId}{args:Array Value}{w:World}{R:Ending->World->Prop}(h:Calls P f args w R):Calls P f args w λe w'=>R e w'/\((∃v,e=.returned v)->w.drawn<=w'.drawn):=λcs=>by obtain⟨e,w',M,J,E,L⟩:=h cs;refine⟨e,w',M,⟨J,?_⟩,E,L⟩;rintro⟨v,rfl⟩;obtain⟨n,I⟩:=E;have:=E3e P n (lone (Frame.enter P f args .normal) cs w);rw[I]at this;exact this
end Go.Abs
/- a contract of the own framework, as the shelf's laws on comparisons ask it: what was there stays, the tape is asked some more -/
namespace Go.Abs
open Go Go.Sort
variable {P:Program}
def E6q{w w':World}(h:RowKit.Below w.heap.size w w')(L:w.drawn<=w'.drawn):∃q E,w'=grow (w.drewN q) E:=by obtain⟨⟨d,os⟩,J⟩:=regrown_of_below h;subst J;refine⟨d - w.drawn,os,?_⟩;have I:w.drawn<=d:=L;simp only[grow,redrawn,World.drewN,show w.drawn+(d - w.drawn)=d by omega]
def Ac.grown{f:FuncId}{args:List SV}{c:Int}(h:Ac P f args (.d (.int .i64 c))){W:World}{β:Names}{vs:List Value}(U:Bv (all W) W β args vs){sy ra:TypeId × Value}(ht:∀b cs,A4w sy ra b cs->∃ty O,W.heap[b]?=some (.cells cs ty O)) :
  Calls P f ⟨vs⟩ W λe I=>e=.returned (.int .i64 c)/\∃q E,I=grow (W.drewN q) E:=by
 refine(Calls.drawn (h.calls U ht)).mono ?_;rintro e I ⟨⟨v,S',β',rfl,hr,M⟩,L⟩;refine⟨?_,E6q M (L ⟨_,rfl⟩)⟩;have J:=hr.J0;cases J;rfl
def Ac.E9c{f:FuncId}{args:List SV}{c:Bool}(h:Ac P f args (.d (.bool c))){W:World}{β:Names}{vs:List Value}(U:Bv (all W) W β args vs){sy ra:TypeId × Value}(ht:∀b cs,A4w sy ra b cs->∃ty O,W.heap[b]?=some (.cells cs ty O)) :
  Calls P f ⟨vs⟩ W λe I=>e=.returned (.bool c)/\∃q E,I=grow (W.drewN q) E:=by
 refine(Calls.drawn (h.calls U ht)).mono ?_;rintro e I ⟨⟨v,S',β',rfl,hr,M⟩,L⟩;refine⟨?_,E6q M (L ⟨_,rfl⟩)⟩;have J:=hr.J0;cases J;rfl
end Go.Abs
