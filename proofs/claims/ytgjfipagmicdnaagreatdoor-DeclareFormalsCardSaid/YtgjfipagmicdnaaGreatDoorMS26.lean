/- errors.As at *api.Code and *api.Fault: the kit's words -/
import Derived.Test.YtgjfipagmicdnaaGreatDoorProg
import Derived.WalkKit
import Derived.LaidEql
import Derived.Stop.Asserts
import Derived.RowKitTokens
import Derived.Laws.Rows
import Derived.Laws.Tables
set_option linter.unusedVariables false
namespace Go.Abs.As
open Go Go.Proofs Go.RowKit Go.Extern.Stop Go.Stop Go.Extern Tryz
set_option maxRecDepth 100000
abbrev typ (t:Nat):Value:=.agg #[.pointer (some ⟨4,t,none⟩)]
abbrev ityp (t:Nat):Value:=.iface 188 (typ t)
abbrev val (t:Nat)(a:Addr)(f:Int):Value:=.agg #[.pointer (some ⟨4,t,none⟩),.pointer (some a),.int .u64 f]
abbrev cval (t:Nat)(a:Addr)(f:Int):Array Value:=#[.pointer (some ⟨4,t,none⟩),.pointer (some a),.int .u64 f]
theorem methodKind (h:Value)(w:World):(Go.method 412 188 (.agg #[h]) "Kind").run prog w=.ok (259,h) w:=by kernel_rfl
theorem methodElem (h:Value)(w:World):(Go.method 412 188 (.agg #[h]) "Elem").run prog w=.ok (271,.agg #[h]) w:=by kernel_rfl
theorem methodImplements (h:Value)(w:World):(Go.method 412 188 (.agg #[h]) "Implements").run prog w=.ok (272,.agg #[h]) w:=by kernel_rfl
theorem methodAssignableTo (h:Value)(w:World):(Go.method 412 188 (.agg #[h]) "AssignableTo").run prog w=.ok (269,.agg #[h]) w:=by kernel_rfl
theorem rlm (z:Sem Value)(f:TypeId→Addr→Nat→Nat→Sem Value)(v:Value) :
  ReflectliteValue.method z f #[v]=(do match ← ReflectliteValue.parts v with | none=>z | some (t,a,fl)=>f t a fl (fl % 32)):=rfl
theorem rls (v x:Value):ReflectliteValue.set #[v,x]=(do
  let (some (dst,a,fl),some (src,b,_)):=(← ReflectliteValue.parts v,← ReflectliteValue.parts x)
   | unsupported (.noEntry "extern/(internal/reflectlite.Value).Set.zeroValue")
  if fl / ReflectliteValue.flagAddr % 2 == 0 then unsupported (.noEntry "extern/(internal/reflectlite.Value).Set.unaddressable")
  let val ← loadVar src b
  if ← Rtype.directlyAssignable dst src then storeVar dst a val
  else if ← Rtype.implements dst src then
   if (← Rtype.kind src) == 20 then
    match val with
    | .nilIface=>unsupported (.noEntry "extern/reflectlite: a nil value of one interface type handed on as a value of another")
    | _=>storeVar dst a val
   else storeVar dst a (.iface src val)
  else panicString ("reflectlite.Set: value of type "++(← Rtype.spelt src) ++ " is not assignable to type "++(← Rtype.spelt dst))
  pure (.tuple #[])):=rfl
theorem valueOf114 (t:Addr)(w:World):(ReflectliteValue.unpack (.iface 114 (.pointer (some t)))).run prog w=.ok (val 114 ⟨w.heap.size,0,none⟩ 150) (w.alloc (.cells #[.pointer (some t)] 114)):=by kernel_rfl
theorem type114 (a:Addr)(w:World):(ReflectliteValue.methodAny (ReflectliteValue.valueError "reflectlite.Value.Type" 0) (fun t _ _ _=>ReflectliteType.toType t) #[val 114 a 150]).run prog w=.ok (ityp 114) w:=by kernel_rfl
theorem kind114 (w:World):((ReflectliteType.abiMethod fun t=>(fun a:Nat=>Value.int IntKind.u8 (a:Int)) <$> Rtype.kind t) #[.pointer (some ⟨4,114,none⟩)]).run prog w=.ok (.int .u8 22) w:=by kernel_rfl
theorem kind76 (w:World):((ReflectliteType.abiMethod fun t=>(fun a:Nat=>Value.int IntKind.u8 (a:Int)) <$> Rtype.kind t) #[.pointer (some ⟨4,76,none⟩)]).run prog w=.ok (.int .u8 2) w:=by kernel_rfl
theorem parts114 (a:Addr)(w:World):(ReflectliteValue.parts (val 114 a 150)).run prog w=.ok (some (114,a,150)) w:=by kernel_rfl
theorem isNil114 (a p:Addr)(W:World)(ha:W.cell? a=some (.pointer (some p))) :
  (ReflectliteValue.method (ReflectliteValue.valueError "reflectlite.Value.IsNil" 0) ReflectliteValue.isNil #[val 114 a 150]).run prog W=.ok (.bool false) W:=by
 rw [rlm]
 simp only [Sem.run_bind,parts114,Result.andThen]
 simp [ReflectliteValue.isNil,loadVar,isAgg,underlying,underlying114,ha,Result.andThen]
theorem elem114 (w:World):(ReflectliteType.method ReflectliteType.elem #[typ 114]).run prog w=.ok (ityp 76) w:=by kernel_rfl
theorem implements76 (w:World):(ReflectliteType.relation "Implements" ReflectliteType.implements_ #[typ 76,ityp 37]).run prog w=.ok (.bool true) w:=by kernel_rfl
theorem typeOf76 (v:Value)(w:World):(ReflectliteType.typeOf #[.iface 76 v]).run prog w=.ok (ityp 76) w:=by kernel_rfl
theorem assignable76 (w:World):(ReflectliteType.relation "AssignableTo" ReflectliteType.assignableTo #[typ 76,ityp 76]).run prog w=.ok (.bool true) w:=by kernel_rfl
theorem elemOf114 (w:World):(Rtype.elem? 114).run prog w=.ok (some 76) w:=by kernel_rfl
theorem mk76 (p:Addr)(w:World):(ReflectliteValue.mk 76 p ReflectliteValue.flagAddr).run prog w=.ok (val 76 p 386) w:=by kernel_rfl
theorem elemV114 (a p:Addr)(W:World)(ha:W.cell? a=some (.pointer (some p))) :
  (ReflectliteValue.method (ReflectliteValue.valueError "reflectlite.Value.Elem" 0) ReflectliteValue.elem #[val 114 a 150]).run prog W=.ok (val 76 p 386) W:=by
 rw [rlm]
 simp only [Sem.run_bind,parts114,Result.andThen]
 simp [ReflectliteValue.elem,loadVar,isAgg,underlying,underlying114,ha,Result.andThen,elemOf114,mk76]
theorem partsA76 (a:Addr)(w:World):(ReflectliteValue.parts (val 76 a 386)).run prog w=.ok (some (76,a,386)) w:=by kernel_rfl
theorem parts76 (a:Addr)(w:World):(ReflectliteValue.parts (val 76 a 130)).run prog w=.ok (some (76,a,130)) w:=by kernel_rfl
theorem direct76 (w:World):(Rtype.directlyAssignable 76 76).run prog w=.ok true w:=by kernel_rfl
theorem valueOf117 (t:Addr)(w:World):(ReflectliteValue.unpack (.iface 117 (.pointer (some t)))).run prog w=.ok (val 117 ⟨w.heap.size,0,none⟩ 150) (w.alloc (.cells #[.pointer (some t)] 117)):=by kernel_rfl
theorem type117 (a:Addr)(w:World):(ReflectliteValue.methodAny (ReflectliteValue.valueError "reflectlite.Value.Type" 0) (fun t _ _ _=>ReflectliteType.toType t) #[val 117 a 150]).run prog w=.ok (ityp 117) w:=by kernel_rfl
theorem kind117 (w:World):((ReflectliteType.abiMethod fun t=>(fun a:Nat=>Value.int IntKind.u8 (a:Int)) <$> Rtype.kind t) #[.pointer (some ⟨4,117,none⟩)]).run prog w=.ok (.int .u8 22) w:=by kernel_rfl
theorem kind116 (w:World):((ReflectliteType.abiMethod fun t=>(fun a:Nat=>Value.int IntKind.u8 (a:Int)) <$> Rtype.kind t) #[.pointer (some ⟨4,116,none⟩)]).run prog w=.ok (.int .u8 25) w:=by kernel_rfl
theorem parts117 (a:Addr)(w:World):(ReflectliteValue.parts (val 117 a 150)).run prog w=.ok (some (117,a,150)) w:=by kernel_rfl
theorem isNil117 (a p:Addr)(W:World)(ha:W.cell? a=some (.pointer (some p))) :
  (ReflectliteValue.method (ReflectliteValue.valueError "reflectlite.Value.IsNil" 0) ReflectliteValue.isNil #[val 117 a 150]).run prog W=.ok (.bool false) W:=by
 rw [rlm]
 simp only [Sem.run_bind,parts117,Result.andThen]
 simp [ReflectliteValue.isNil,loadVar,isAgg,underlying,underlying117,ha,Result.andThen]
theorem elem117 (w:World):(ReflectliteType.method ReflectliteType.elem #[typ 117]).run prog w=.ok (ityp 116) w:=by kernel_rfl
theorem implements116 (w:World):(ReflectliteType.relation "Implements" ReflectliteType.implements_ #[typ 116,ityp 37]).run prog w=.ok (.bool true) w:=by kernel_rfl
theorem typeOf116 (v:Value)(w:World):(ReflectliteType.typeOf #[.iface 116 v]).run prog w=.ok (ityp 116) w:=by kernel_rfl
theorem assignable116 (w:World):(ReflectliteType.relation "AssignableTo" ReflectliteType.assignableTo #[typ 116,ityp 116]).run prog w=.ok (.bool true) w:=by kernel_rfl
theorem elemOf117 (w:World):(Rtype.elem? 117).run prog w=.ok (some 116) w:=by kernel_rfl
theorem mk116 (p:Addr)(w:World):(ReflectliteValue.mk 116 p ReflectliteValue.flagAddr).run prog w=.ok (val 116 p 409) w:=by kernel_rfl
theorem elemV117 (a p:Addr)(W:World)(ha:W.cell? a=some (.pointer (some p))) :
  (ReflectliteValue.method (ReflectliteValue.valueError "reflectlite.Value.Elem" 0) ReflectliteValue.elem #[val 117 a 150]).run prog W=.ok (val 116 p 409) W:=by
 rw [rlm]
 simp only [Sem.run_bind,parts117,Result.andThen]
 simp [ReflectliteValue.elem,loadVar,isAgg,underlying,underlying117,ha,Result.andThen,elemOf117,mk116]
theorem partsA116 (a:Addr)(w:World):(ReflectliteValue.parts (val 116 a 409)).run prog w=.ok (some (116,a,409)) w:=by kernel_rfl
theorem parts116 (a:Addr)(w:World):(ReflectliteValue.parts (val 116 a 153)).run prog w=.ok (some (116,a,153)) w:=by kernel_rfl
theorem direct116 (w:World):(Rtype.directlyAssignable 116 116).run prog w=.ok true w:=by kernel_rfl
theorem valueOfCode (e:Int)(w:World):(ReflectliteValue.unpack (.iface 76 (.int .i64 e))).run prog w=.ok (val 76 ⟨w.heap.size,0,none⟩ 130) (w.alloc (.cells #[.int .i64 e] 76)):=by kernel_rfl
end Go.Abs.As
