/- The plain law of layer 14: the program's sets and the reference's lists are the same -/
import Derived.Test.YtgjfipagmicdnaaGreatDoorMF20
import Derived.Test.YtgjfipagmicdnaaGreatDoorMFB
namespace Go.Abs
set_option linter.unusedSimpArgs false
set_option linter.unusedVariables false
open Go Go.Proofs
inductive Way (p:Prog) (nm:Str):Str→Prop where
 | one {x:Str}:x∈contN p nm→Way p nm x
 | more {y x:Str}:Way p nm y→x∈contN p y→Way p nm x
theorem Way.trans {p:Prog} {a b c:Str} (h:Way p a b)(k:Way p b c):Way p a c:=by
 induction k with
 | one h1=>exact .more h h1
 | more _ h1 ih=>exact .more ih h1
theorem Way.isS {p:Prog} {a b:Str} (h:Way p a b):kindOf p b=1:=by
 cases h with
 | one h=>exact (Win.contN p a).isS b h
 | more _ h=>exact (Win.contN p _).isS b h
end Go.Abs
