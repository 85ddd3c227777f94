/- sorting by name: the comparison walked with the kit -/
import Derived.Shelf.Lay
import Derived.Test.YtaneedhchnaniaaGreatDoorKShelfS
import Derived.Test.YtaneedhchnaniaaGreatDoorKSB
namespace Go.Abs
set_option linter.all false
open Go Go.Proofs Go.RowKit Go.Lib Go.Sort Tryz
set_option maxRecDepth 100000
set_option maxHeartbeats 1000000
abbrev sv (a:A3):Value:=.string ⟨a.toArray⟩
theorem D3j (a:A3)(W:World):Calls prog 131 #[sv a] W fun e w'=>e=.returned (.bool false)∧w'=W:=by
 go_enter func131,ntmps131
 go_wp2
 go_ret
 exact⟨rfl,rfl⟩
theorem F6f (a b:A3)(W:World)(t:TypeId):(binOp .gtr t (sv a) (sv b)).run prog W=.ok (.bool (Op.bytesLess b a)) W:=by
 have:=C3q a b;have e:(!Op.bytesLess a b && !a == b)=Op.bytesLess b a:=by rw [←Bool.not_or,this,Bool.not_not]
 simp [binOp,Op.stringOp,e]
theorem G4r (a b:A3)(W:World):Calls prog 69 #[sv a,sv b] W fun e w'=>e=.returned (.int .i64 (Bp a b))∧w'=W:=by
 obtain⟨R,O,L⟩:=C4p a b;have I:=fun W=>D3j a W;have J:=fun W=>D3j b W;generalize Bp a b=c at *
 go_enter func69,ntmps69
 go_wp2_with (first| rw [F6f]| (go_at_call 131;first| (refine (I _).mono ?_;rintro e w' ⟨rfl,E⟩;rw [E])| (refine (J _).mono ?_;rintro e w' ⟨rfl,E⟩;rw [E])))
 all_goals (go_ret;refine⟨?_,rfl⟩;rcases L with h| h| h <;> simp_all)
theorem F8u (a b:A3)(W:World):Calls prog 26 #[sv a,sv b] W fun e w'=>e=.returned (.int .i64 (Bp a b))∧w'=W:=by
 have E:=G4r a b W;generalize Bp a b=c at *
 go_enter func26,ntmps26
 go_wp2_with (go_at_call 69;refine E.mono ?_;rintro e w' ⟨rfl,I⟩;rw [I])
 go_ret
 exact⟨rfl,rfl⟩
theorem E5u (a b:A3)(Z V a3 a4 L R J b2 I O b5 b6:Value)(W:World):Calls prog 198 #[.agg #[sv a,Z,V,a3,a4,L,R],.agg #[sv b,J,b2,I,O,b5,b6]] W fun e w'=>e=.returned (.int .i64 (Bp a b))∧∃q E,w'=grow (W.drewN q) E:=by
 have U:=fun W=>F8u a b W;generalize Bp a b=c at *
 go_enter func198,ntmps198
 go_wp2_with (go_at_call 26;refine (U _).mono ?_;rintro e w' ⟨rfl,rfl⟩)
 go_ret
 exact⟨rfl,0,_,by rw [alloc_eq_grow,alloc_eq_grow,grow_grow];rfl⟩
end Go.Abs
