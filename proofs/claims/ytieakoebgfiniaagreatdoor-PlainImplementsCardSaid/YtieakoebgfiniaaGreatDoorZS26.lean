/- errors.As at *api.Code and *api.Fault: the kit's words -/
import Derived.Test.YtieakoebgfiniaaGreatDoorProg
import Derived.WalkKit
import Derived.LaidEql
import Derived.Stop.Asserts
import Derived.RowKitTokens
import Derived.Laws.Rows
import Derived.Laws.Tables
set_option linter.all false
set_option maxRecDepth 100000
namespace Go.Abs.As
open Go Go.Proofs Go.RowKit Go.Extern.Stop Go.Stop Go.Extern Tryz
abbrev Ig(t:Nat):Value:=.agg #[.pointer (some ⟨4,t,none⟩)]
abbrev Ke(t:Nat):Value:=.iface 283 (Ig t)
abbrev val(t:Nat)(a:Addr)(f:Int):Value:=.agg #[.pointer (some ⟨4,t,none⟩),.pointer (some a),.int .u64 f]
abbrev C0q(t:Nat)(a:Addr)(f:Int):Array Value:=#[.pointer (some ⟨4,t,none⟩),.pointer (some a),.int .u64 f]
def D6x(h:Value)(w:World):(Go.method 514 283 (.agg #[h]) "Kind").run prog w=.ok (375,h) w:=by kernel_rfl
def D2n(h:Value)(w:World):(Go.method 514 283 (.agg #[h]) "Elem").run prog w=.ok (387,.agg #[h]) w:=by kernel_rfl
def D4n(h:Value)(w:World):(Go.method 514 283 (.agg #[h]) "Implements").run prog w=.ok (388,.agg #[h]) w:=by kernel_rfl
def E4m(h:Value)(w:World):(Go.method 514 283 (.agg #[h]) "AssignableTo").run prog w=.ok (385,.agg #[h]) w:=by kernel_rfl
def rlm(z:Sem Value)(f:TypeId->Addr->Nat->Nat->Sem Value)(v:Value) :
  ReflectliteValue.method z f #[v]=(do match <-ReflectliteValue.parts v with|none=>z|some (t,a,E)=>f t a E (E % 32)):=rfl
def rls(v x:Value):ReflectliteValue.set #[v,x]=(do
  let (some (dst,a,E),some (src,b,_)):=(<-ReflectliteValue.parts v,<-ReflectliteValue.parts x)
   |unsupported (.noEntry "extern/(internal/reflectlite.Value).Set.zeroValue")
  if E / ReflectliteValue.flagAddr % 2 ==0 then unsupported (.noEntry "extern/(internal/reflectlite.Value).Set.unaddressable")
  let val <-loadVar src b
  if <-Rtype.directlyAssignable dst src then storeVar dst a val
  else if <-Rtype.implements dst src then
   if(<-Rtype.kind src) ==20 then
    match val with
    |.nilIface=>unsupported (.noEntry "extern/reflectlite: a nil value of one interface type handed on as a value of another")
    |_=>storeVar dst a val
   else storeVar dst a (.iface src val)
  else panicString ("reflectlite.Set: value of type "++(<-Rtype.spelt src) ++ " is not assignable to type "++(<-Rtype.spelt dst))
  pure (.tuple #[])):=rfl
def H2y(t:Addr)(w:World):(ReflectliteValue.unpack (.iface 157 (.pointer (some t)))).run prog w=.ok (val 157 ⟨w.heap.size,0,none⟩ 150) (w.alloc (.cells #[.pointer (some t)] 157)):=by kernel_rfl
def type157(a:Addr)(w:World):(ReflectliteValue.methodAny (ReflectliteValue.valueError "reflectlite.Value.Type" 0) (λt _ _ _=>ReflectliteType.toType t) #[val 157 a 150]).run prog w=.ok (Ke 157) w:=by kernel_rfl
def H3t(w:World):((ReflectliteType.abiMethod λt=>(λa:Nat=>Value.int IntKind.u8 (a:Int)) <$> Rtype.kind t) #[.pointer (some ⟨4,157,none⟩)]).run prog w=.ok (.int .u8 22) w:=by kernel_rfl
def H4e(w:World):((ReflectliteType.abiMethod λt=>(λa:Nat=>Value.int IntKind.u8 (a:Int)) <$> Rtype.kind t) #[.pointer (some ⟨4,72,none⟩)]).run prog w=.ok (.int .u8 2) w:=by kernel_rfl
def E3i(a:Addr)(w:World):(ReflectliteValue.parts (val 157 a 150)).run prog w=.ok (some (157,a,150)) w:=by kernel_rfl
def H0m(a p:Addr)(W:World)(E:W.cell? a=some (.pointer (some p))) :
  (ReflectliteValue.method (ReflectliteValue.valueError "reflectlite.Value.IsNil" 0) ReflectliteValue.isNil #[val 157 a 150]).run prog W=.ok (.bool false) W:=by
 rw[rlm];simp only[Sem.run_bind,E3i,Result.andThen];simp[ReflectliteValue.isNil,loadVar,isAgg,underlying,underlying157,E,Result.andThen]
def H0j(w:World):(ReflectliteType.method ReflectliteType.elem #[Ig 157]).run prog w=.ok (Ke 72) w:=by kernel_rfl
def F3k(w:World):(ReflectliteType.relation "Implements" ReflectliteType.implements_ #[Ig 72,Ke 40]).run prog w=.ok (.bool true) w:=by kernel_rfl
def E8u(v:Value)(w:World):(ReflectliteType.typeOf #[.iface 72 v]).run prog w=.ok (Ke 72) w:=by kernel_rfl
def H0c(w:World):(ReflectliteType.relation "AssignableTo" ReflectliteType.assignableTo #[Ig 72,Ke 72]).run prog w=.ok (.bool true) w:=by kernel_rfl
def F2r(w:World):(Rtype.elem? 157).run prog w=.ok (some 72) w:=by kernel_rfl
def G0y(p:Addr)(w:World):(ReflectliteValue.mk 72 p ReflectliteValue.flagAddr).run prog w=.ok (val 72 p 386) w:=by kernel_rfl
def H4j(a p:Addr)(W:World)(E:W.cell? a=some (.pointer (some p))) :
  (ReflectliteValue.method (ReflectliteValue.valueError "reflectlite.Value.Elem" 0) ReflectliteValue.elem #[val 157 a 150]).run prog W=.ok (val 72 p 386) W:=by
 rw[rlm];simp only[Sem.run_bind,E3i,Result.andThen];simp[ReflectliteValue.elem,loadVar,isAgg,underlying,underlying157,E,Result.andThen,F2r,G0y]
def F2z(a:Addr)(w:World):(ReflectliteValue.parts (val 72 a 386)).run prog w=.ok (some (72,a,386)) w:=by kernel_rfl
def H5d(a:Addr)(w:World):(ReflectliteValue.parts (val 72 a 130)).run prog w=.ok (some (72,a,130)) w:=by kernel_rfl
def G0p(w:World):(Rtype.directlyAssignable 72 72).run prog w=.ok true w:=by kernel_rfl
def G2b(t:Addr)(w:World):(ReflectliteValue.unpack (.iface 158 (.pointer (some t)))).run prog w=.ok (val 158 ⟨w.heap.size,0,none⟩ 150) (w.alloc (.cells #[.pointer (some t)] 158)):=by kernel_rfl
def type158(a:Addr)(w:World):(ReflectliteValue.methodAny (ReflectliteValue.valueError "reflectlite.Value.Type" 0) (λt _ _ _=>ReflectliteType.toType t) #[val 158 a 150]).run prog w=.ok (Ke 158) w:=by kernel_rfl
def G4x(w:World):((ReflectliteType.abiMethod λt=>(λa:Nat=>Value.int IntKind.u8 (a:Int)) <$> Rtype.kind t) #[.pointer (some ⟨4,158,none⟩)]).run prog w=.ok (.int .u8 22) w:=by kernel_rfl
def E9o(w:World):((ReflectliteType.abiMethod λt=>(λa:Nat=>Value.int IntKind.u8 (a:Int)) <$> Rtype.kind t) #[.pointer (some ⟨4,136,none⟩)]).run prog w=.ok (.int .u8 25) w:=by kernel_rfl
def D4y(a:Addr)(w:World):(ReflectliteValue.parts (val 158 a 150)).run prog w=.ok (some (158,a,150)) w:=by kernel_rfl
def F0t(a p:Addr)(W:World)(E:W.cell? a=some (.pointer (some p))) :
  (ReflectliteValue.method (ReflectliteValue.valueError "reflectlite.Value.IsNil" 0) ReflectliteValue.isNil #[val 158 a 150]).run prog W=.ok (.bool false) W:=by
 rw[rlm];simp only[Sem.run_bind,D4y,Result.andThen];simp[ReflectliteValue.isNil,loadVar,isAgg,underlying,underlying158,E,Result.andThen]
def F3z(w:World):(ReflectliteType.method ReflectliteType.elem #[Ig 158]).run prog w=.ok (Ke 136) w:=by kernel_rfl
def H3x(w:World):(ReflectliteType.relation "Implements" ReflectliteType.implements_ #[Ig 136,Ke 40]).run prog w=.ok (.bool true) w:=by kernel_rfl
def D1b(v:Value)(w:World):(ReflectliteType.typeOf #[.iface 136 v]).run prog w=.ok (Ke 136) w:=by kernel_rfl
def F9x(w:World):(ReflectliteType.relation "AssignableTo" ReflectliteType.assignableTo #[Ig 136,Ke 136]).run prog w=.ok (.bool true) w:=by kernel_rfl
def H4d(w:World):(Rtype.elem? 158).run prog w=.ok (some 136) w:=by kernel_rfl
def F7z(p:Addr)(w:World):(ReflectliteValue.mk 136 p ReflectliteValue.flagAddr).run prog w=.ok (val 136 p 409) w:=by kernel_rfl
def F2e(a p:Addr)(W:World)(E:W.cell? a=some (.pointer (some p))) :
  (ReflectliteValue.method (ReflectliteValue.valueError "reflectlite.Value.Elem" 0) ReflectliteValue.elem #[val 158 a 150]).run prog W=.ok (val 136 p 409) W:=by
 rw[rlm];simp only[Sem.run_bind,D4y,Result.andThen];simp[ReflectliteValue.elem,loadVar,isAgg,underlying,underlying158,E,Result.andThen,H4d,F7z]
def G4o(a:Addr)(w:World):(ReflectliteValue.parts (val 136 a 409)).run prog w=.ok (some (136,a,409)) w:=by kernel_rfl
def G3i(a:Addr)(w:World):(ReflectliteValue.parts (val 136 a 153)).run prog w=.ok (some (136,a,153)) w:=by kernel_rfl
def F7v(w:World):(Rtype.directlyAssignable 136 136).run prog w=.ok true w:=by kernel_rfl
def F8j(e:Int)(w:World):(ReflectliteValue.unpack (.iface 72 (.int .i64 e))).run prog w=.ok (val 72 ⟨w.heap.size,0,none⟩ 130) (w.alloc (.cells #[.int .i64 e] 72)):=by kernel_rfl
end Go.Abs.As
