/- sorting by name: the comparison walked with the kit -/
import Derived.Shelf.Lay
import Derived.Test.YtaneedhchnaniaaGreatDoorQShelfS
import Derived.Test.YtaneedhchnaniaaGreatDoorQSB
namespace Go.Abs
set_option linter.unusedSimpArgs false
set_option linter.unusedVariables false
open Go Go.Proofs Go.RowKit Go.Lib Go.Sort Tryz
set_option maxRecDepth 100000
set_option maxHeartbeats 1000000
abbrev sv (a:Str):Value:=.string ⟨a.toArray⟩
theorem nan_calls (a:Str)(W:World):Calls prog 131 #[sv a] W fun e w'=>e=.returned (.bool false)∧w'=W:=by
 go_enter func131,ntmps131
 go_wp2
 go_ret
 exact⟨rfl,rfl⟩
theorem run_gtr_sv (a b:Str)(W:World)(t:TypeId):(binOp .gtr t (sv a) (sv b)).run prog W=.ok (.bool (Op.bytesLess b a)) W:=by
 have:=bytesLess_or_eq a b
 have e:(!Op.bytesLess a b && !a == b)=Op.bytesLess b a:=by rw [← Bool.not_or,this,Bool.not_not]
 simp [binOp,Op.stringOp,e]
theorem cmp_calls (a b:Str)(W:World):Calls prog 69 #[sv a,sv b] W fun e w'=>e=.returned (.int .i64 (cmpS a b))∧w'=W:=by
 obtain⟨h1,h2,h3⟩:=bl_cmpS a b
 have hn1:=fun W=>nan_calls a W
 have hn2:=fun W=>nan_calls b W
 generalize cmpS a b=c at *
 go_enter func69,ntmps69
 go_wp2_with (first | rw [run_gtr_sv] | (go_at_call 131;first | (refine (hn1 _).mono ?_;rintro e w' ⟨rfl,hw⟩;rw [hw]) | (refine (hn2 _).mono ?_;rintro e w' ⟨rfl,hw⟩;rw [hw])))
 all_goals (go_ret;refine⟨?_,rfl⟩;rcases h3 with h | h | h <;> simp_all)
theorem name_calls (a b:Str)(W:World):Calls prog 26 #[sv a,sv b] W fun e w'=>e=.returned (.int .i64 (cmpS a b))∧w'=W:=by
 have hc:=cmp_calls a b W
 generalize cmpS a b=c at *
 go_enter func26,ntmps26
 go_wp2_with (go_at_call 69;refine hc.mono ?_;rintro e w' ⟨rfl,hw⟩;rw [hw])
 go_ret
 exact⟨rfl,rfl⟩
theorem set1_calls (a b:Str)(a1 a2 a3 a4 a5 a6 b1 b2 b3 b4 b5 b6:Value)(W:World):Calls prog 198 #[.agg #[sv a,a1,a2,a3,a4,a5,a6],.agg #[sv b,b1,b2,b3,b4,b5,b6]] W fun e w'=>e=.returned (.int .i64 (cmpS a b))∧∃ q os',w'=grow (W.drewN q) os':=by
 have hc:=fun W=>name_calls a b W
 generalize cmpS a b=c at *
 go_enter func198,ntmps198
 go_wp2_with (go_at_call 26;refine (hc _).mono ?_;rintro e w' ⟨rfl,rfl⟩)
 go_ret
 exact⟨rfl,0,_,by rw [alloc_eq_grow,alloc_eq_grow,grow_grow];rfl⟩
end Go.Abs
