/- step: one step of an expression -/
import Derived.Test.YtfjaahliphbklaaGreatDoorJS38
namespace Go.Abs
set_option linter.unusedSimpArgs false
set_option linter.unusedVariables false
open Go Go.Proofs
set_option maxRecDepth 100000
set_option maxHeartbeats 1000000
def G2t (p:Prog)(e:Ex):Ex × Int:=if e.kind=3 then (e,2) else match e.kids[0]? with
 | none=>(e,4)
 | some v=>if e.kind=2 then G4z p e v else if e.kind=4 then G6c p e v else if e.kind=5 then G5m p e v else (e,4)
mutual
def F5a (p:Prog):Ex→Ex × Int
 | .mk k n t a ks q=>match G2n p ks with
  | some (ks',o)=>if o=1 then (.mk k n t a ks' q,1) else (.mk k n t a ks q,o)
  | none=>G2t p (.mk k n t a ks q)
def G2n (p:Prog):List Ex→Option (List Ex × Int)
 | []=>none
 | k::ks=>if G2j k=true then (G2n p ks).map fun r=>(k::r.1,r.2) else some ((F5a p k).1::ks,(F5a p k).2)
end
theorem A5i (t:Ty):B2c t t=true:=(F4f t t).2 rfl
theorem C1g:∀ l:List Ty,A5w l l=true
 | []=>by rw [A5w]
 | t::l=>by rw [A5w,A5i,C1g l];rfl
theorem C1s:∀ l:List Ex,(∀ x,x∈l→D3r x x=true)→A6h l l=true
 | [],_=>by rw [A6h]
 | t::l,h=>by rw [A6h,h t (by simp),C1s l (fun x hx=>h x (by simp [hx]))];rfl
theorem C6w (e:Ex):D3r e e=true:=by
 induction e using Ex.induct with
 | h e ih=>rw [E1x,A5i,C1g,C1s _ ih];simp
def D5y (p:Prog):Nat→Ex→Prop
 | 0,e=>e.Sm
 | n+1,e=>e.Sm∧((F5a p e).2=1→D5y p n (F5a p e).1)
theorem D5y.sm {p:Prog}:∀ {n:Nat} {e:Ex},D5y p n e→e.Sm
 | 0,_,h=>h
 | _+1,_,h=>h.1
end Go.Abs
