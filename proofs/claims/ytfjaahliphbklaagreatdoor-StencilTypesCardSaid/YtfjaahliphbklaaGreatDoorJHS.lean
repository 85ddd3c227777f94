/- a row's frame that hands the walk the world's shape as well (for internal/bytealg.MaxLen) -/
import Derived.Handed
import Derived.SizedLaws
import Derived.LaidLaws
import Derived.HandedShaped
import Derived.Test.YtfjaahliphbklaaGreatDoorJTab
namespace Go.Abs
set_option linter.unusedSimpArgs false
set_option linter.unusedVariables false
open Go
theorem B5i {H:Type} {enc:TypeId × Value→H} {C:Checked} {os:Os} {f:FuncId} {fn:Func} {s:ChangeSpec} {conds:List PathCond} {again:Bool} {X:World→Array Value→Prop}
  (hX:∀ (w w':World) (args:Array Value),w.heap=w'.heap→X w args→X w' args)
  (own:ownKnob C.prog.godebug=none) (started:os.Started) (noInit:C.prog.inits.idxOf? f=none) (hfn:C.prog.funcs[f]? = some fn)
  (witness:∃ (w:World) (tape:Tape) (i:Input),w.os=os∧(w.forCall tape i).Shaped C.prog∧i.vars=[]∧Input.okWide C.prog (w.forCall tape i) .any w.heap.size f i ∧
   ((s.pre enc C.prog fn conds false (w.forCall tape i).memory i.args∧X (w.forCall tape i).memory i.args)∧sizedMet enc C.prog fn (OpenSpec.ofChange s) false (w.forCall tape i).memory i.args)∧Assume.holds {} C.prog (lone (Frame.enter C.prog f i.args .normal) [] (w.forCall tape i)))
  (walk:∀ (W:World) (base:Nat) (args:Array Value) (ds gs:List (DataW H)) (before:List MemPlace),
   (∀ (j:Nat) t v,fn.params[j]? = some t→args[j]? = some v→Value.okWide C.prog W .any base t v) →
   DataW.Whole enc C.prog fn.params.toList s.vars false W args.toList ds gs before →
   (DataW.weightsEach C.prog (fn.params.toList++s.plain.varTypes C.prog) (ds++gs)).all (·≤reachBytes)=true→X W args→W.ShapedOpen C.prog →
   Calls C.prog f args W fun e W'=>∃ v,e=.returned v∧s.post enc C.prog fn false true false again W args v W') :
  ReturnsInHanded {} C os f .any (fun w args=>(s.pre enc C.prog fn conds false w args∧X w args)∧sizedMet enc C.prog fn (OpenSpec.ofChange s) false w args) (s.post enc C.prog fn false true false again) :=
 returnsInHanded_of_calls own started noInit witness fun w tape i _ hsh _ hok hpre _=>by have hval:=hok.2.2.2;obtain⟨fn',hfn',_,_,_,_,hv⟩:=hval;obtain rfl:=Option.some.inj (hfn.symm.trans hfn');obtain⟨⟨⟨ds,gs,before,hw,_⟩,hx⟩,hz⟩:=hpre;refine (walk _ w.heap.size i.args ds gs before hv (DataW.Whole.of_heap (by rfl) hw) (hz.weights hw) (hX _ _ _ (by rfl) hx) hsh).mono ?_;rintro e W' ⟨v,rfl,hp⟩;exact ChangeSpec.post_blind hp
theorem C4e {P:Program} {w:World} {g:Nat} {t:TypeId} {m:Int} (h:w.ShapedOpen P)(hg:g < P.globals.size)
  (h0:((begin P (fun _ _=>0) default).world.heap[g]?).bind Obj.row? = some (#[.int .i64 0],t)) (hm:w.cell? ⟨g,0,none⟩=some (.int .i64 m)):∃ ty fr,w.heap[g]? = some (.cells #[.int .i64 m] ty fr):=by
 obtain⟨cs,hh,hs,_⟩:=h.1 g _ t hg h0;have h1:0 < cs.size:=by rw [hs];decide
 have h2:cs[0]=.int .i64 m:=by
  have hcell:w.cell? ⟨g,0,none⟩=some cs[0]:=by simp [World.cell?,hh,h1]
  rw [hcell] at hm;exact Option.some.inj hm
 have h3:cs = #[.int .i64 m]:=by
  apply Array.ext
  ·rw [hs];rfl
  ·intro i hi _;have:i=0:=by
    have h4:cs.size=1:=hs;omega
   subst this;rw [h2];rfl
 rw [← h3];exact⟨_,_,hh⟩
end Go.Abs
