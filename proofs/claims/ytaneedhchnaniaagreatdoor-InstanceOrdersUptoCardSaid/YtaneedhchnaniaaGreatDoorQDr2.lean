/- a contract of the own framework, as the shelf's laws on comparisons ask it: what was there stays, the tape is asked some more -/
import Derived.Test.YtaneedhchnaniaaGreatDoorQDr1
import Derived.Test.YtaneedhchnaniaaGreatDoorQRead
import Derived.Lib.QuietBelow
namespace Go.Abs
set_option linter.unusedSimpArgs false
set_option linter.unusedVariables false
open Go Go.Sort
set_option maxRecDepth 100000
variable {P:Program}
theorem grow_of_below {w w':World} (h:RowKit.Below w.heap.size w w')(hd:w.drawn≤w'.drawn):∃ q os',w'=grow (w.drewN q) os':=by
 obtain⟨⟨d,os⟩,h1⟩:=regrown_of_below h
 subst h1
 refine⟨d - w.drawn,os,?_⟩
 have hd':w.drawn≤d:=hd
 simp only [grow,redrawn,World.drewN,show w.drawn+(d - w.drawn)=d by omega]
theorem CallOK.grown {f:FuncId} {args:List SV} {c:Int} (h:CallOK P f args (.d (.int .i64 c))) {W:World} {β:Names} {vs:List Value} (hv:RepL (all W) W β args vs) {sy ra:TypeId × Value} (ht:∀ b cs,fixedRow sy ra b cs→∃ ty fr,W.heap[b]? = some (.cells cs ty fr)) :
  Calls P f ⟨vs⟩ W fun e W'=>e=.returned (.int .i64 c)∧∃ q os',W'=grow (W.drewN q) os':=by
 refine (Calls.drawn (h.calls hv ht)).mono ?_
 rintro e W' ⟨⟨v,S',β',rfl,hr,hb⟩,hd⟩
 refine⟨?_,grow_of_below hb (hd ⟨_,rfl⟩)⟩
 have h1:=hr.inv_d
 cases h1;rfl
theorem CallOK.grownB {f:FuncId} {args:List SV} {c:Bool} (h:CallOK P f args (.d (.bool c))) {W:World} {β:Names} {vs:List Value} (hv:RepL (all W) W β args vs) {sy ra:TypeId × Value} (ht:∀ b cs,fixedRow sy ra b cs→∃ ty fr,W.heap[b]? = some (.cells cs ty fr)) :
  Calls P f ⟨vs⟩ W fun e W'=>e=.returned (.bool c)∧∃ q os',W'=grow (W.drewN q) os':=by
 refine (Calls.drawn (h.calls hv ht)).mono ?_
 rintro e W' ⟨⟨v,S',β',rfl,hr,hb⟩,hd⟩
 refine⟨?_,grow_of_below hb (hd ⟨_,rfl⟩)⟩
 have h1:=hr.inv_d
 cases h1;rfl
end Go.Abs
