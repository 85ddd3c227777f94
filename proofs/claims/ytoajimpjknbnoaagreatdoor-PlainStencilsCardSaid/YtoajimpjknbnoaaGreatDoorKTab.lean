import Derived.Calls
set_option linter.all false
namespace Go.iA
open Go
def WO:Array Value:=(([1,10,100,1000,10000,100000,1000000,10000000,100000000,1000000000,10000000000,100000000000,1000000000000,10000000000000,100000000000000,1000000000000000,10000000000000000,100000000000000000,1000000000000000000,10000000000000000000]:List Int).map λz=>Value.int .u64 z).toArray
def HP:Array Value:=#[.iface 273 (.agg #[.pointer (some ⟨4,40,none⟩)])]
def F5f:Prop:=True
def G1q:Array Value:=#[.string ⟨#[]⟩,.string ⟨#[]⟩,.string ⟨#[118,97,108,117,101]⟩,.string ⟨#[112,97,110,105,99]⟩,.string ⟨#[115,116,117,99,107]⟩,.string ⟨#[102,117,101,108]⟩]
def F8k(ra:TypeId × Value):Int:=match ra.2 with
 |.int _ m=>m
 |_=>0
def qJ(sy ra:TypeId × Value)(b:Nat)(cs:Array Value):Prop:=(b=1/\cs=WO)\/(b=0/\cs=HP/\F5f) \/(b=1000000/\cs=G1q/\False)\/(b=1000000/\cs = #[.iface sy.1 sy.2]/\False)\/(b=1000000/\cs = #[.int .i64 (F8k ra)]/\False)
end Go.iA
