/- The package variables that proofs lean on: their blocks and what they hold. -/
import Derived.Calls
namespace Go.Abs
set_option linter.unusedSimpArgs false
set_option linter.unusedVariables false
open Go
def F3v:Array Value:=(([1,10,100,1000,10000,100000,1000000,10000000,100000000,1000000000,10000000000,100000000000,1000000000000,10000000000000,100000000000000,1000000000000000,10000000000000000,100000000000000000,1000000000000000000,10000000000000000000]:List Int).map fun z=>Value.int .u64 z).toArray
def G5g:Array Value:=#[.iface 0 (.agg #[.pointer (some ⟨8,245,none⟩)])]
def G5d:Prop:=False
def F5x:Array Value:=#[.string ⟨#[]⟩,.string ⟨#[]⟩,.string ⟨#[118,97,108,117,101]⟩,.string ⟨#[112,97,110,105,99]⟩,.string ⟨#[115,116,117,99,107]⟩,.string ⟨#[102,117,101,108]⟩]
def G4f (ra:TypeId × Value):Int:=match ra.2 with
 | .int _ m=>m
 | _=>0
def A9w (sy ra:TypeId × Value)(b:Nat)(cs:Array Value):Prop:=(b=0∧cs=F3v)∨(b=1000000∧cs=G5g∧G5d) ∨
 (b=1000000∧cs=F5x∧False)∨(b=1∧cs = #[.iface sy.1 sy.2]∧True)∨(b=3∧cs = #[.int .i64 (G4f ra)]∧True)
end Go.Abs
