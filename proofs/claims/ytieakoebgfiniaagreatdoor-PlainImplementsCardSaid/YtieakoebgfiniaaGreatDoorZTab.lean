/- The package variables that proofs lean on: their blocks and what they hold. -/
import Derived.Calls
set_option linter.all false
namespace Go.Abs
open Go
def C0j:Array Value:=(([1,10,100,1000,10000,100000,1000000,10000000,100000000,1000000000,10000000000,100000000000,1000000000000,10000000000000,100000000000000,1000000000000000,10000000000000000,100000000000000000,1000000000000000000,10000000000000000000]:List Int).map λz=>Value.int .u64 z).toArray
def B6g:Array Value:=#[.iface 283 (.agg #[.pointer (some ⟨4,40,none⟩)])]
def H2m:Prop:=True
def E8z:Array Value:=#[.string ⟨#[]⟩,.string ⟨#[]⟩,.string ⟨#[118,97,108,117,101]⟩,.string ⟨#[112,97,110,105,99]⟩,.string ⟨#[115,116,117,99,107]⟩,.string ⟨#[102,117,101,108]⟩]
def F0z(ra:TypeId × Value):Int:=match ra.2 with
 |.int _ m=>m
 |_=>0
def A9q(sy ra:TypeId × Value)(b:Nat)(cs:Array Value):Prop:=(b=1/\cs=C0j)\/(b=0/\cs=B6g/\H2m) \/
 (b=1000000/\cs=E8z/\False)\/(b=1000000/\cs = #[.iface sy.1 sy.2]/\False)\/(b=1000000/\cs = #[.int .i64 (F0z ra)]/\False)
end Go.Abs
