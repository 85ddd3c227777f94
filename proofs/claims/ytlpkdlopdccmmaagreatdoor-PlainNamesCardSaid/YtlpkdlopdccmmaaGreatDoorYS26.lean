/- errors.As at *api.Code and *api.Fault: the kit's words -/
import Derived.Test.YtlpkdlopdccmmaaGreatDoorProg
import Derived.WalkKit
import Derived.LaidEql
import Derived.Stop.Asserts
import Derived.RowKitTokens
import Derived.Laws.Rows
import Derived.Laws.Tables
set_option linter.unusedVariables false
namespace Go.Abs.As
open Go Go.Proofs Go.RowKit Go.Extern.Stop Go.Stop Go.Extern Tryz
set_option maxRecDepth 100000
abbrev typ (t:Nat):Value:=.agg #[.pointer (some ⟨4,t,none⟩)]
abbrev ityp (t:Nat):Value:=.iface 229 (typ t)
abbrev val (t:Nat)(a:Addr)(f:Int):Value:=.agg #[.pointer (some ⟨4,t,none⟩),.pointer (some a),.int .u64 f]
abbrev cval (t:Nat)(a:Addr)(f:Int):Array Value:=#[.pointer (some ⟨4,t,none⟩),.pointer (some a),.int .u64 f]
theorem methodKind (h:Value)(w:World):(Go.method 468 229 (.agg #[h]) "Kind").run prog w=.ok (337,h) w:=by kernel_rfl
theorem methodElem (h:Value)(w:World):(Go.method 468 229 (.agg #[h]) "Elem").run prog w=.ok (349,.agg #[h]) w:=by kernel_rfl
theorem methodImplements (h:Value)(w:World):(Go.method 468 229 (.agg #[h]) "Implements").run prog w=.ok (350,.agg #[h]) w:=by kernel_rfl
theorem methodAssignableTo (h:Value)(w:World):(Go.method 468 229 (.agg #[h]) "AssignableTo").run prog w=.ok (347,.agg #[h]) w:=by kernel_rfl
theorem rlm (z:Sem Value)(f:TypeId→Addr→Nat→Nat→Sem Value)(v:Value) :
  ReflectliteValue.method z f #[v]=(do match ← ReflectliteValue.parts v with | none=>z | some (t,a,fl)=>f t a fl (fl % 32)):=rfl
theorem rls (v x:Value):ReflectliteValue.set #[v,x]=(do
  let (some (dst,a,fl),some (src,b,_)):=(← ReflectliteValue.parts v,← ReflectliteValue.parts x)
   | unsupported (.noEntry "extern/(internal/reflectlite.Value).Set.zeroValue")
  if fl / ReflectliteValue.flagAddr % 2 == 0 then unsupported (.noEntry "extern/(internal/reflectlite.Value).Set.unaddressable")
  let val ← loadVar src b
  if ← Rtype.directlyAssignable dst src then storeVar dst a val
  else if ← Rtype.implements dst src then
   if (← Rtype.kind src) == 20 then
    match val with
    | .nilIface=>unsupported (.noEntry "extern/reflectlite: a nil value of one interface type handed on as a value of another")
    | _=>storeVar dst a val
   else storeVar dst a (.iface src val)
  else panicString ("reflectlite.Set: value of type "++(← Rtype.spelt src) ++ " is not assignable to type "++(← Rtype.spelt dst))
  pure (.tuple #[])):=rfl
theorem valueOf111 (t:Addr)(w:World):(ReflectliteValue.unpack (.iface 111 (.pointer (some t)))).run prog w=.ok (val 111 ⟨w.heap.size,0,none⟩ 150) (w.alloc (.cells #[.pointer (some t)] 111)):=by kernel_rfl
theorem type111 (a:Addr)(w:World):(ReflectliteValue.methodAny (ReflectliteValue.valueError "reflectlite.Value.Type" 0) (fun t _ _ _=>ReflectliteType.toType t) #[val 111 a 150]).run prog w=.ok (ityp 111) w:=by kernel_rfl
theorem kind111 (w:World):((ReflectliteType.abiMethod fun t=>(fun a:Nat=>Value.int IntKind.u8 (a:Int)) <$> Rtype.kind t) #[.pointer (some ⟨4,111,none⟩)]).run prog w=.ok (.int .u8 22) w:=by kernel_rfl
theorem kind60 (w:World):((ReflectliteType.abiMethod fun t=>(fun a:Nat=>Value.int IntKind.u8 (a:Int)) <$> Rtype.kind t) #[.pointer (some ⟨4,60,none⟩)]).run prog w=.ok (.int .u8 2) w:=by kernel_rfl
theorem parts111 (a:Addr)(w:World):(ReflectliteValue.parts (val 111 a 150)).run prog w=.ok (some (111,a,150)) w:=by kernel_rfl
theorem isNil111 (a p:Addr)(W:World)(ha:W.cell? a=some (.pointer (some p))) :
  (ReflectliteValue.method (ReflectliteValue.valueError "reflectlite.Value.IsNil" 0) ReflectliteValue.isNil #[val 111 a 150]).run prog W=.ok (.bool false) W:=by
 rw [rlm]
 simp only [Sem.run_bind,parts111,Result.andThen]
 simp [ReflectliteValue.isNil,loadVar,isAgg,underlying,underlying111,ha,Result.andThen]
theorem elem111 (w:World):(ReflectliteType.method ReflectliteType.elem #[typ 111]).run prog w=.ok (ityp 60) w:=by kernel_rfl
theorem implements60 (w:World):(ReflectliteType.relation "Implements" ReflectliteType.implements_ #[typ 60,ityp 37]).run prog w=.ok (.bool true) w:=by kernel_rfl
theorem typeOf60 (v:Value)(w:World):(ReflectliteType.typeOf #[.iface 60 v]).run prog w=.ok (ityp 60) w:=by kernel_rfl
theorem assignable60 (w:World):(ReflectliteType.relation "AssignableTo" ReflectliteType.assignableTo #[typ 60,ityp 60]).run prog w=.ok (.bool true) w:=by kernel_rfl
theorem elemOf111 (w:World):(Rtype.elem? 111).run prog w=.ok (some 60) w:=by kernel_rfl
theorem mk60 (p:Addr)(w:World):(ReflectliteValue.mk 60 p ReflectliteValue.flagAddr).run prog w=.ok (val 60 p 386) w:=by kernel_rfl
theorem elemV111 (a p:Addr)(W:World)(ha:W.cell? a=some (.pointer (some p))) :
  (ReflectliteValue.method (ReflectliteValue.valueError "reflectlite.Value.Elem" 0) ReflectliteValue.elem #[val 111 a 150]).run prog W=.ok (val 60 p 386) W:=by
 rw [rlm]
 simp only [Sem.run_bind,parts111,Result.andThen]
 simp [ReflectliteValue.elem,loadVar,isAgg,underlying,underlying111,ha,Result.andThen,elemOf111,mk60]
theorem partsA60 (a:Addr)(w:World):(ReflectliteValue.parts (val 60 a 386)).run prog w=.ok (some (60,a,386)) w:=by kernel_rfl
theorem parts60 (a:Addr)(w:World):(ReflectliteValue.parts (val 60 a 130)).run prog w=.ok (some (60,a,130)) w:=by kernel_rfl
theorem direct60 (w:World):(Rtype.directlyAssignable 60 60).run prog w=.ok true w:=by kernel_rfl
theorem valueOf112 (t:Addr)(w:World):(ReflectliteValue.unpack (.iface 112 (.pointer (some t)))).run prog w=.ok (val 112 ⟨w.heap.size,0,none⟩ 150) (w.alloc (.cells #[.pointer (some t)] 112)):=by kernel_rfl
theorem type112 (a:Addr)(w:World):(ReflectliteValue.methodAny (ReflectliteValue.valueError "reflectlite.Value.Type" 0) (fun t _ _ _=>ReflectliteType.toType t) #[val 112 a 150]).run prog w=.ok (ityp 112) w:=by kernel_rfl
theorem kind112 (w:World):((ReflectliteType.abiMethod fun t=>(fun a:Nat=>Value.int IntKind.u8 (a:Int)) <$> Rtype.kind t) #[.pointer (some ⟨4,112,none⟩)]).run prog w=.ok (.int .u8 22) w:=by kernel_rfl
theorem kind105 (w:World):((ReflectliteType.abiMethod fun t=>(fun a:Nat=>Value.int IntKind.u8 (a:Int)) <$> Rtype.kind t) #[.pointer (some ⟨4,105,none⟩)]).run prog w=.ok (.int .u8 25) w:=by kernel_rfl
theorem parts112 (a:Addr)(w:World):(ReflectliteValue.parts (val 112 a 150)).run prog w=.ok (some (112,a,150)) w:=by kernel_rfl
theorem isNil112 (a p:Addr)(W:World)(ha:W.cell? a=some (.pointer (some p))) :
  (ReflectliteValue.method (ReflectliteValue.valueError "reflectlite.Value.IsNil" 0) ReflectliteValue.isNil #[val 112 a 150]).run prog W=.ok (.bool false) W:=by
 rw [rlm]
 simp only [Sem.run_bind,parts112,Result.andThen]
 simp [ReflectliteValue.isNil,loadVar,isAgg,underlying,underlying112,ha,Result.andThen]
theorem elem112 (w:World):(ReflectliteType.method ReflectliteType.elem #[typ 112]).run prog w=.ok (ityp 105) w:=by kernel_rfl
theorem implements105 (w:World):(ReflectliteType.relation "Implements" ReflectliteType.implements_ #[typ 105,ityp 37]).run prog w=.ok (.bool true) w:=by kernel_rfl
theorem typeOf105 (v:Value)(w:World):(ReflectliteType.typeOf #[.iface 105 v]).run prog w=.ok (ityp 105) w:=by kernel_rfl
theorem assignable105 (w:World):(ReflectliteType.relation "AssignableTo" ReflectliteType.assignableTo #[typ 105,ityp 105]).run prog w=.ok (.bool true) w:=by kernel_rfl
theorem elemOf112 (w:World):(Rtype.elem? 112).run prog w=.ok (some 105) w:=by kernel_rfl
theorem mk105 (p:Addr)(w:World):(ReflectliteValue.mk 105 p ReflectliteValue.flagAddr).run prog w=.ok (val 105 p 409) w:=by kernel_rfl
theorem elemV112 (a p:Addr)(W:World)(ha:W.cell? a=some (.pointer (some p))) :
  (ReflectliteValue.method (ReflectliteValue.valueError "reflectlite.Value.Elem" 0) ReflectliteValue.elem #[val 112 a 150]).run prog W=.ok (val 105 p 409) W:=by
 rw [rlm]
 simp only [Sem.run_bind,parts112,Result.andThen]
 simp [ReflectliteValue.elem,loadVar,isAgg,underlying,underlying112,ha,Result.andThen,elemOf112,mk105]
theorem partsA105 (a:Addr)(w:World):(ReflectliteValue.parts (val 105 a 409)).run prog w=.ok (some (105,a,409)) w:=by kernel_rfl
theorem parts105 (a:Addr)(w:World):(ReflectliteValue.parts (val 105 a 153)).run prog w=.ok (some (105,a,153)) w:=by kernel_rfl
theorem direct105 (w:World):(Rtype.directlyAssignable 105 105).run prog w=.ok true w:=by kernel_rfl
theorem valueOfCode (e:Int)(w:World):(ReflectliteValue.unpack (.iface 60 (.int .i64 e))).run prog w=.ok (val 60 ⟨w.heap.size,0,none⟩ 130) (w.alloc (.cells #[.int .i64 e] 60)):=by kernel_rfl
end Go.Abs.As
