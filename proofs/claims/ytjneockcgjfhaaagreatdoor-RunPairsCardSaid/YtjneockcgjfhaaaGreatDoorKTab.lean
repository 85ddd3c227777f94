/- The package variables that proofs lean on: their blocks and what they hold. -/
import Derived.Calls
set_option linter.all false
namespace Go.Abs
open Go
def B7j:Array Value:=(([1,10,100,1000,10000,100000,1000000,10000000,100000000,1000000000,10000000000,100000000000,1000000000000,10000000000000,100000000000000,1000000000000000,10000000000000000,100000000000000000,1000000000000000000,10000000000000000000]:List Int).map λz=>Value.int .u64 z).toArray
def E8s:Array Value:=#[.iface 0 (.agg #[.pointer (some ⟨9,131,none⟩)])]
def H0d:Prop:=False
def B2y:Array Value:=#[.string ⟨#[]⟩,.string ⟨#[]⟩,.string ⟨#[118,97,108,117,101]⟩,.string ⟨#[112,97,110,105,99]⟩,.string ⟨#[115,116,117,99,107]⟩,.string ⟨#[102,117,101,108]⟩]
def B7f(ra:TypeId × Value):Int:=match ra.2 with
 |.int _ m=>m
 |_=>0
def A2s(sy ra:TypeId × Value)(b:Nat)(cs:Array Value):Prop:=(b=1/\cs=B7j)\/(b=1000000/\cs=E8s/\H0d) \/(b=0/\cs=B2y/\True)\/(b=5/\cs = #[.iface sy.1 sy.2]/\True)\/(b=2/\cs = #[.int .i64 (B7f ra)]/\True)
end Go.Abs
