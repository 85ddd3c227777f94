/- step: one step of an expression -/
import Derived.Test.YtgjfipagmicdnaaGreatDoorLS38
import Derived.Test.YtgjfipagmicdnaaGreatDoorLAb14
import Derived.Test.YtgjfipagmicdnaaGreatDoorLP13
namespace Go.Abs
set_option linter.unusedSimpArgs false
set_option linter.unusedVariables false
open Go Go.Proofs
set_option maxRecDepth 100000
set_option maxHeartbeats 1000000
theorem sameT_refl (t:Ty):sameT t t=true:=(sameT_er t t).2 rfl
theorem sameTL_refl:∀ l:List Ty,sameTL l l=true
 | []=>by rw [sameTL]
 | t::l=>by rw [sameTL,sameT_refl,sameTL_refl l];rfl
theorem sameEL_refl:∀ l:List Ex,(∀ x,x∈l→sameE x x=true)→sameEL l l=true
 | [],_=>by rw [sameEL]
 | t::l,h=>by rw [sameEL,h t (by simp),sameEL_refl l (fun x hx=>h x (by simp [hx]))];rfl
theorem sameE_refl (e:Ex):sameE e e=true:=by
 induction e using Ex.induct with
 | h e ih=>rw [sameE_eq,sameT_refl,sameTL_refl,sameEL_refl _ ih];simp
end Go.Abs
