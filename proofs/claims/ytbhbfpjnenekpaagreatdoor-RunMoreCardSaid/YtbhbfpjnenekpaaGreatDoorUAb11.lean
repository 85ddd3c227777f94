/- scopes through which no jump goes, labels -/
import Derived.Test.YtbhbfpjnenekpaaGreatDoorUAb16
import Derived.Scope
namespace Go.Abs
set_option linter.unusedSimpArgs false
set_option linter.unusedVariables false
open Go
section
variable {P:Program} {n:Nat} {Q:Exit→SL→Boxes→Prop} {sl:SL} {bx:Boxes}
def noGotoA (Q:Exit→SL→Boxes→Prop):Exit→SL→Boxes→Prop
 | .goto _,_,_=>False
 | e,sl,bx=>Q e sl bx
theorem AWp.scope {c:Code} (h:AWp none P n c (noGotoA Q) sl bx):AWp none P n (.scope c) Q sl bx:=by
 intro C S w β a hs
 have h':=h C S w β a hs
 rw [FW_none,wpIn_wide] at h' ⊢
 refine wp_scope_straight (wp_mono h' ?_)
 rintro e a' w' ⟨sl',bx',S',β',q,r⟩
 cases e with
 | goto l=>exact q.elim
 | _=>exact⟨sl',bx',S',β',q,r⟩
theorem AWp.seqLabel {ro:Option Nat} {l:Nat} {y:Code} (h:AWp ro P n y Q sl bx):AWp ro P n (.seq (.label l) y) Q sl bx :=
 AWp.seq fun _ S _ β _ hs=>wpIn_label ⟨sl,bx,S,β,h,hs⟩
end
end Go.Abs
