/- step: one step of an expression -/
import Derived.Test.YtbhbfpjnenekpaaGreatDoorJS38
import Derived.Test.YtbhbfpjnenekpaaGreatDoorJAb11
import Derived.Test.YtbhbfpjnenekpaaGreatDoorJP13
namespace Go.Abs
set_option linter.unusedSimpArgs false
set_option linter.unusedVariables false
open Go Go.Proofs
set_option maxRecDepth 100000
set_option maxHeartbeats 1000000
def redexE (p:Prog)(e:Ex):Ex × Int:=if e.kind=3 then (e,2) else match e.kids[0]? with
 | none=>(e,4)
 | some v=>if e.kind=2 then callE p e v else if e.kind=4 then selE p e v else if e.kind=5 then asrtE p e v else (e,4)
mutual
def stepE (p:Prog):Ex→Ex × Int
 | .mk k n t a ks q=>match stepL p ks with
  | some (ks',o)=>if o=1 then (.mk k n t a ks' q,1) else (.mk k n t a ks q,o)
  | none=>redexE p (.mk k n t a ks q)
def stepL (p:Prog):List Ex→Option (List Ex × Int)
 | []=>none
 | k::ks=>if isVal k=true then (stepL p ks).map fun r=>(k::r.1,r.2) else some ((stepE p k).1::ks,(stepE p k).2)
end
theorem sameT_refl (t:Ty):sameT t t=true:=(sameT_er t t).2 rfl
def StepsSm (p:Prog):Nat→Ex→Prop
 | 0,e=>e.Sm
 | n+1,e=>e.Sm∧((stepE p e).2=1→StepsSm p n (stepE p e).1)
theorem StepsSm.sm {p:Prog}:∀ {n:Nat} {e:Ex},StepsSm p n e→e.Sm
 | 0,_,h=>h
 | _+1,_,h=>h.1
end Go.Abs
