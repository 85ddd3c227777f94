/- a contract of the own framework, as the shelf's laws on comparisons ask it: what was there stays, the tape is asked some more -/
import Derived.Test.YtaneedhchnaniaaGreatDoorKDr1
import Derived.Test.YtaneedhchnaniaaGreatDoorKRead
import Derived.Lib.QuietBelow
namespace Go.Abs
set_option linter.all false
open Go Go.Sort
set_option maxRecDepth 100000
variable {P:Program}
theorem D8k {w w':World} (h:RowKit.Below w.heap.size w w')(hd:w.drawn≤w'.drawn):∃q E,w'=grow (w.drewN q) E:=by obtain⟨⟨d,os⟩,J⟩:=regrown_of_below h;subst J;refine⟨d - w.drawn,os,?_⟩;have I:w.drawn≤d:=hd;simp only [grow,redrawn,World.drewN,show w.drawn+(d - w.drawn)=d by omega]
theorem Ac.grown {f:FuncId} {args:List SV} {c:Int} (h:Ac P f args (.d (.int .i64 c))) {W:World} {β:Names} {vs:List Value} (O:Bm (all W) W β args vs) {sy ra:TypeId × Value} (ht:∀b cs,A3d sy ra b cs→∃ty J,W.heap[b]? = some (.cells cs ty J)) :
  Calls P f ⟨vs⟩ W fun e I=>e=.returned (.int .i64 c)∧∃q E,I=grow (W.drewN q) E:=by
 refine (Calls.drawn (h.calls O ht)).mono ?_;rintro e I ⟨⟨v,S',β',rfl,hr,L⟩,hd⟩;refine⟨?_,D8k L (hd ⟨_,rfl⟩)⟩;have R:=hr.Gp;cases R;rfl
theorem Ac.E9t {f:FuncId} {args:List SV} {c:Bool} (h:Ac P f args (.d (.bool c))) {W:World} {β:Names} {vs:List Value} (O:Bm (all W) W β args vs) {sy ra:TypeId × Value} (ht:∀b cs,A3d sy ra b cs→∃ty J,W.heap[b]? = some (.cells cs ty J)) :
  Calls P f ⟨vs⟩ W fun e I=>e=.returned (.bool c)∧∃q E,I=grow (W.drewN q) E:=by
 refine (Calls.drawn (h.calls O ht)).mono ?_;rintro e I ⟨⟨v,S',β',rfl,hr,L⟩,hd⟩;refine⟨?_,D8k L (hd ⟨_,rfl⟩)⟩;have R:=hr.Gp;cases R;rfl
end Go.Abs
