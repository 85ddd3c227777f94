/- sorting by name: the comparison walked with the kit -/
import Derived.Shelf.Lay
import Derived.Test.YtfjaahliphbklaaGreatDoorJShelfS
import Derived.Test.YtfjaahliphbklaaGreatDoorJSB
namespace Go.Abs
set_option linter.unusedSimpArgs false
set_option linter.unusedVariables false
open Go Go.Proofs Go.RowKit Go.Lib Go.Sort Tryz
set_option maxRecDepth 100000
set_option maxHeartbeats 1000000
abbrev sv (a:Str):Value:=.string ⟨a.toArray⟩
theorem D0x (a:Str)(W:World):Calls prog 232 #[sv a] W fun e w'=>e=.returned (.bool false)∧w'=W:=by
 go_enter func232,ntmps232
 go_wp2
 go_ret
 exact⟨rfl,rfl⟩
theorem E4z (a b:Str)(W:World)(t:TypeId):(binOp .gtr t (sv a) (sv b)).run prog W=.ok (.bool (Op.bytesLess b a)) W:=by
 have:=A7i a b;have e:(!Op.bytesLess a b && !a == b)=Op.bytesLess b a:=by rw [← Bool.not_or,this,Bool.not_not]
 simp [binOp,Op.stringOp,e]
theorem E6u (a b:Str)(W:World):Calls prog 204 #[sv a,sv b] W fun e w'=>e=.returned (.int .i64 (A2r a b))∧w'=W:=by
 obtain⟨h1,h2,h3⟩:=D6u a b;have hn1:=fun W=>D0x a W;have hn2:=fun W=>D0x b W;generalize A2r a b=c at *
 go_enter func204,ntmps204
 go_wp2_with (first | rw [E4z] | (go_at_call 232;first | (refine (hn1 _).mono ?_;rintro e w' ⟨rfl,hw⟩;rw [hw]) | (refine (hn2 _).mono ?_;rintro e w' ⟨rfl,hw⟩;rw [hw])))
 all_goals (go_ret;refine⟨?_,rfl⟩;rcases h3 with h | h | h <;> simp_all)
theorem E3m (a b:Str)(W:World):Calls prog 144 #[sv a,sv b] W fun e w'=>e=.returned (.int .i64 (A2r a b))∧w'=W:=by
 have hc:=E6u a b W;generalize A2r a b=c at *
 go_enter func144,ntmps144
 go_wp2_with (go_at_call 204;refine hc.mono ?_;rintro e w' ⟨rfl,hw⟩;rw [hw])
 go_ret
 exact⟨rfl,rfl⟩
theorem E5s (a b:Str)(a1 a2 a3 a4 a5 a6 b1 b2 b3 b4 b5 b6:Value)(W:World):Calls prog 155 #[.agg #[sv a,a1,a2,a3,a4,a5,a6],.agg #[sv b,b1,b2,b3,b4,b5,b6]] W fun e w'=>e=.returned (.int .i64 (A2r a b))∧∃ q os',w'=grow (W.drewN q) os':=by
 have hc:=fun W=>E3m a b W;generalize A2r a b=c at *
 go_enter func155,ntmps155
 go_wp2_with (go_at_call 144;refine (hc _).mono ?_;rintro e w' ⟨rfl,rfl⟩)
 go_ret
 exact⟨rfl,0,_,by rw [alloc_eq_grow,alloc_eq_grow,grow_grow];rfl⟩
end Go.Abs
