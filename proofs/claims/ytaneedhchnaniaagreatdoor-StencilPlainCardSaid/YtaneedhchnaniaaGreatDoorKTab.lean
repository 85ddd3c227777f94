/- The package variables that proofs lean on: their blocks and what they hold. -/
import Derived.Calls
namespace Go.Abs
set_option linter.all false
open Go
def B6k:Array Value:=(([1,10,100,1000,10000,100000,1000000,10000000,100000000,1000000000,10000000000,100000000000,1000000000000,10000000000000,100000000000000,1000000000000000,10000000000000000,100000000000000000,1000000000000000000,10000000000000000000]:List Int).map fun z=>Value.int .u64 z).toArray
def G0z:Array Value:=#[.iface 0 (.agg #[.pointer (some ⟨8,161,none⟩)])]
def F0s:Prop:=False
def F9u:Array Value:=#[.string ⟨#[]⟩,.string ⟨#[]⟩,.string ⟨#[118,97,108,117,101]⟩,.string ⟨#[112,97,110,105,99]⟩,.string ⟨#[115,116,117,99,107]⟩,.string ⟨#[102,117,101,108]⟩]
def B5z (ra:TypeId × Value):Int:=match ra.2 with
 |.int _ m=>m
 |_=>0
def A3d (sy ra:TypeId × Value)(b:Nat)(cs:Array Value):Prop:=(b=0∧cs=B6k)∨(b=1000000∧cs=G0z∧F0s) ∨
 (b=1000000∧cs=F9u∧False)∨(b=4∧cs = #[.iface sy.1 sy.2]∧True)∨(b=1∧cs = #[.int .i64 (B5z ra)]∧True)
end Go.Abs
