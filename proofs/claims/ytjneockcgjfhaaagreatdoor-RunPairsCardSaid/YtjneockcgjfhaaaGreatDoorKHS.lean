/- a row's frame that hands the walk the world's shape as well (for internal/bytealg.MaxLen) -/
import Derived.Handed
import Derived.SizedLaws
import Derived.LaidLaws
import Derived.HandedShaped
import Derived.Test.YtjneockcgjfhaaaGreatDoorKTab
set_option linter.all false
namespace Go.Abs
open Go
def F7w{H:Type}{enc:TypeId × Value->H}{C:Checked}{os:Os}{f:FuncId}{fn:Func}{s:ChangeSpec}{J:List PathCond}{O:Bool}{X:World->Array Value->Prop}
  (hX:∀(w w':World) (args:Array Value),w.heap=w'.heap->X w args->X w' args)
  (own:ownKnob C.prog.godebug=none)(I:os.Started)(U:C.prog.inits.idxOf? f=none)(a2:C.prog.funcs[f]?=some fn)
  (L:∃(w:World) (tape:Tape) (i:Input),w.os=os/\(w.forCall tape i).Shaped C.prog/\i.vars=[]/\Input.okWide C.prog (w.forCall tape i) .any w.heap.size f i /\ ((s.pre enc C.prog fn J false (w.forCall tape i).memory i.args/\X (w.forCall tape i).memory i.args)/\sizedMet enc C.prog fn (OpenSpec.ofChange s) false (w.forCall tape i).memory i.args)/\Assume.holds {} C.prog (lone (Frame.enter C.prog f i.args .normal) [] (w.forCall tape i)))
  (a1:∀(W:World) (base:Nat) (args:Array Value) (ds gs:List (DataW H)) (E:List MemPlace),(∀(j:Nat) t v,fn.params[j]?=some t->args[j]?=some v->Value.okWide C.prog W .any base t v) -> DataW.Whole enc C.prog fn.params.toList s.vars false W args.toList ds gs E -> (DataW.weightsEach C.prog (fn.params.toList++s.plain.varTypes C.prog) (ds++gs)).all (·<=reachBytes)=true->X W args->W.ShapedOpen C.prog -> Calls C.prog f args W λe W'=>∃v,e=.returned v/\s.post enc C.prog fn false true false O W args v W') :
  ReturnsInHanded {} C os f .any (λw args=>(s.pre enc C.prog fn J false w args/\X w args)/\sizedMet enc C.prog fn (OpenSpec.ofChange s) false w args) (s.post enc C.prog fn false true false O) :=
 returnsInHanded_of_calls own I U L λw tape i _ a4 _ a3 a0 _=>by have V:=a3.2.2.2;obtain⟨a5,Z,_,_,_,_,hv⟩:=V;obtain rfl:=Option.some.inj (a2.symm.trans Z);obtain⟨⟨⟨ds,gs,E,hw,_⟩,hx⟩,hz⟩:=a0;refine(a1 _ w.heap.size i.args ds gs E hv (DataW.Whole.of_heap (by rfl) hw) (hz.weights hw) (hX _ _ _ (by rfl) hx) a4).mono ?_;rintro e W' ⟨v,rfl,hp⟩;exact ChangeSpec.post_blind hp
def G9o{P:Program}{w:World}{g:Nat}{t:TypeId}{m:Int}(h:w.ShapedOpen P)(O:g<P.globals.size)
  (W:((begin P (λ_ _=>0) default).world.heap[g]?).bind Obj.row? =some (#[.int .i64 0],t))(I:w.cell? ⟨g,0,none⟩=some (.int .i64 m)):∃ty V,w.heap[g]?=some (.cells #[.int .i64 m] ty V):=by
 obtain⟨cs,J,hs,_⟩:=h.1 g _ t O W;have L:0<cs.size:=by rw[hs];decide
 have Z:cs[0]=.int .i64 m:=by
  have E:w.cell? ⟨g,0,none⟩=some cs[0]:=by simp[World.cell?,J,L]
  rw[E]at I;exact Option.some.inj I
 have U:cs = #[.int .i64 m]:=by
  apply Array.ext;rw[hs];rfl
  .intro i hi _;have:i=0:=by have h4:cs.size=1:=hs;omega
   subst this;rw[Z];rfl
 rw[<-U];exact⟨_,_,J⟩
end Go.Abs
