/- errors.As at *api.Code and *api.Fault: the kit's words -/
import Derived.Test.YtenheogknlmohaaGreatDoorProg
import Derived.WalkKit
import Derived.LaidEql
import Derived.Stop.Asserts
import Derived.RowKitTokens
import Derived.Laws.Rows
import Derived.Laws.Tables
set_option linter.unusedVariables false
namespace Go.Abs.As
open Go Go.Proofs Go.RowKit Go.Extern.Stop Go.Stop Go.Extern
set_option maxRecDepth 100000

abbrev typ (t : Nat) : Value := .agg #[.pointer (some ⟨4, t, none⟩)]
abbrev ityp (t : Nat) : Value := .iface 249 (typ t)
abbrev val (t : Nat) (a : Addr) (f : Int) : Value := .agg #[.pointer (some ⟨4, t, none⟩), .pointer (some a), .int .u64 f]
abbrev cval (t : Nat) (a : Addr) (f : Int) : Array Value := #[.pointer (some ⟨4, t, none⟩), .pointer (some a), .int .u64 f]
theorem methodKind (h : Value) (w : World) : (Go.method 425 249 (.agg #[h]) "Kind").run Tryz.prog w = .ok (266, h) w := by kernel_rfl
theorem methodElem (h : Value) (w : World) : (Go.method 425 249 (.agg #[h]) "Elem").run Tryz.prog w = .ok (278, .agg #[h]) w := by kernel_rfl
theorem methodImplements (h : Value) (w : World) : (Go.method 425 249 (.agg #[h]) "Implements").run Tryz.prog w = .ok (279, .agg #[h]) w := by kernel_rfl
theorem methodAssignableTo (h : Value) (w : World) : (Go.method 425 249 (.agg #[h]) "AssignableTo").run Tryz.prog w = .ok (276, .agg #[h]) w := by kernel_rfl
theorem rlm (z : Sem Value) (f : TypeId → Addr → Nat → Nat → Sem Value) (v : Value) :
    ReflectliteValue.method z f #[v] = (do match ← ReflectliteValue.parts v with | none => z | some (t, a, fl) => f t a fl (fl % 32)) := rfl
theorem rls (v x : Value) : ReflectliteValue.set #[v, x] = (do
    let (some (dst, a, fl), some (src, b, _)) := (← ReflectliteValue.parts v, ← ReflectliteValue.parts x)
      | unsupported (.noEntry "extern/(internal/reflectlite.Value).Set.zeroValue")
    if fl / ReflectliteValue.flagAddr % 2 == 0 then unsupported (.noEntry "extern/(internal/reflectlite.Value).Set.unaddressable")
    let val ← loadVar src b
    if ← Rtype.directlyAssignable dst src then storeVar dst a val
    else if ← Rtype.implements dst src then
      if (← Rtype.kind src) == 20 then
        match val with
        | .nilIface => unsupported (.noEntry "extern/reflectlite: a nil value of one interface type handed on as a value of another")
        | _ => storeVar dst a val
      else storeVar dst a (.iface src val)
    else panicString ("reflectlite.Set: value of type " ++ (← Rtype.spelt src) ++ " is not assignable to type " ++ (← Rtype.spelt dst))
    pure (.tuple #[])) := rfl
theorem valueOf175 (t : Addr) (w : World) : (ReflectliteValue.unpack (.iface 175 (.pointer (some t)))).run Tryz.prog w = .ok (val 175 ⟨w.heap.size, 0, none⟩ 150) (w.alloc (.cells #[.pointer (some t)] 175)) := by kernel_rfl
theorem type175 (a : Addr) (w : World) : (ReflectliteValue.methodAny (ReflectliteValue.valueError "reflectlite.Value.Type" 0) (fun t _ _ _ => ReflectliteType.toType t) #[val 175 a 150]).run Tryz.prog w = .ok (ityp 175) w := by kernel_rfl
theorem kind175 (w : World) : ((ReflectliteType.abiMethod fun t => (fun a : Nat => Value.int IntKind.u8 (a : Int)) <$> Rtype.kind t) #[.pointer (some ⟨4, 175, none⟩)]).run Tryz.prog w = .ok (.int .u8 22) w := by kernel_rfl
theorem kind128 (w : World) : ((ReflectliteType.abiMethod fun t => (fun a : Nat => Value.int IntKind.u8 (a : Int)) <$> Rtype.kind t) #[.pointer (some ⟨4, 128, none⟩)]).run Tryz.prog w = .ok (.int .u8 2) w := by kernel_rfl
theorem parts175 (a : Addr) (w : World) : (ReflectliteValue.parts (val 175 a 150)).run Tryz.prog w = .ok (some (175, a, 150)) w := by kernel_rfl
theorem isNil175 (a p : Addr) (W : World) (ha : W.cell? a = some (.pointer (some p))) :
    (ReflectliteValue.method (ReflectliteValue.valueError "reflectlite.Value.IsNil" 0) ReflectliteValue.isNil #[val 175 a 150]).run Tryz.prog W = .ok (.bool false) W := by
  rw [rlm]
  simp only [Sem.run_bind, parts175, Result.andThen]
  simp [ReflectliteValue.isNil, loadVar, isAgg, underlying, Tryz.underlying175, ha, Result.andThen]
theorem elem175 (w : World) : (ReflectliteType.method ReflectliteType.elem #[typ 175]).run Tryz.prog w = .ok (ityp 128) w := by kernel_rfl
theorem implements128 (w : World) : (ReflectliteType.relation "Implements" ReflectliteType.implements_ #[typ 128, ityp 65]).run Tryz.prog w = .ok (.bool true) w := by kernel_rfl
theorem typeOf128 (v : Value) (w : World) : (ReflectliteType.typeOf #[.iface 128 v]).run Tryz.prog w = .ok (ityp 128) w := by kernel_rfl
theorem assignable128 (w : World) : (ReflectliteType.relation "AssignableTo" ReflectliteType.assignableTo #[typ 128, ityp 128]).run Tryz.prog w = .ok (.bool true) w := by kernel_rfl
theorem elemOf175 (w : World) : (Rtype.elem? 175).run Tryz.prog w = .ok (some 128) w := by kernel_rfl
theorem mk128 (p : Addr) (w : World) : (ReflectliteValue.mk 128 p ReflectliteValue.flagAddr).run Tryz.prog w = .ok (val 128 p 386) w := by kernel_rfl
theorem elemV175 (a p : Addr) (W : World) (ha : W.cell? a = some (.pointer (some p))) :
    (ReflectliteValue.method (ReflectliteValue.valueError "reflectlite.Value.Elem" 0) ReflectliteValue.elem #[val 175 a 150]).run Tryz.prog W = .ok (val 128 p 386) W := by
  rw [rlm]
  simp only [Sem.run_bind, parts175, Result.andThen]
  simp [ReflectliteValue.elem, loadVar, isAgg, underlying, Tryz.underlying175, ha, Result.andThen, elemOf175, mk128]
theorem partsA128 (a : Addr) (w : World) : (ReflectliteValue.parts (val 128 a 386)).run Tryz.prog w = .ok (some (128, a, 386)) w := by kernel_rfl
theorem parts128 (a : Addr) (w : World) : (ReflectliteValue.parts (val 128 a 130)).run Tryz.prog w = .ok (some (128, a, 130)) w := by kernel_rfl
theorem direct128 (w : World) : (Rtype.directlyAssignable 128 128).run Tryz.prog w = .ok true w := by kernel_rfl
theorem valueOf178 (t : Addr) (w : World) : (ReflectliteValue.unpack (.iface 178 (.pointer (some t)))).run Tryz.prog w = .ok (val 178 ⟨w.heap.size, 0, none⟩ 150) (w.alloc (.cells #[.pointer (some t)] 178)) := by kernel_rfl
theorem type178 (a : Addr) (w : World) : (ReflectliteValue.methodAny (ReflectliteValue.valueError "reflectlite.Value.Type" 0) (fun t _ _ _ => ReflectliteType.toType t) #[val 178 a 150]).run Tryz.prog w = .ok (ityp 178) w := by kernel_rfl
theorem kind178 (w : World) : ((ReflectliteType.abiMethod fun t => (fun a : Nat => Value.int IntKind.u8 (a : Int)) <$> Rtype.kind t) #[.pointer (some ⟨4, 178, none⟩)]).run Tryz.prog w = .ok (.int .u8 22) w := by kernel_rfl
theorem kind177 (w : World) : ((ReflectliteType.abiMethod fun t => (fun a : Nat => Value.int IntKind.u8 (a : Int)) <$> Rtype.kind t) #[.pointer (some ⟨4, 177, none⟩)]).run Tryz.prog w = .ok (.int .u8 25) w := by kernel_rfl
theorem parts178 (a : Addr) (w : World) : (ReflectliteValue.parts (val 178 a 150)).run Tryz.prog w = .ok (some (178, a, 150)) w := by kernel_rfl
theorem isNil178 (a p : Addr) (W : World) (ha : W.cell? a = some (.pointer (some p))) :
    (ReflectliteValue.method (ReflectliteValue.valueError "reflectlite.Value.IsNil" 0) ReflectliteValue.isNil #[val 178 a 150]).run Tryz.prog W = .ok (.bool false) W := by
  rw [rlm]
  simp only [Sem.run_bind, parts178, Result.andThen]
  simp [ReflectliteValue.isNil, loadVar, isAgg, underlying, Tryz.underlying178, ha, Result.andThen]
theorem elem178 (w : World) : (ReflectliteType.method ReflectliteType.elem #[typ 178]).run Tryz.prog w = .ok (ityp 177) w := by kernel_rfl
theorem implements177 (w : World) : (ReflectliteType.relation "Implements" ReflectliteType.implements_ #[typ 177, ityp 65]).run Tryz.prog w = .ok (.bool true) w := by kernel_rfl
theorem typeOf177 (v : Value) (w : World) : (ReflectliteType.typeOf #[.iface 177 v]).run Tryz.prog w = .ok (ityp 177) w := by kernel_rfl
theorem assignable177 (w : World) : (ReflectliteType.relation "AssignableTo" ReflectliteType.assignableTo #[typ 177, ityp 177]).run Tryz.prog w = .ok (.bool true) w := by kernel_rfl
theorem elemOf178 (w : World) : (Rtype.elem? 178).run Tryz.prog w = .ok (some 177) w := by kernel_rfl
theorem mk177 (p : Addr) (w : World) : (ReflectliteValue.mk 177 p ReflectliteValue.flagAddr).run Tryz.prog w = .ok (val 177 p 409) w := by kernel_rfl
theorem elemV178 (a p : Addr) (W : World) (ha : W.cell? a = some (.pointer (some p))) :
    (ReflectliteValue.method (ReflectliteValue.valueError "reflectlite.Value.Elem" 0) ReflectliteValue.elem #[val 178 a 150]).run Tryz.prog W = .ok (val 177 p 409) W := by
  rw [rlm]
  simp only [Sem.run_bind, parts178, Result.andThen]
  simp [ReflectliteValue.elem, loadVar, isAgg, underlying, Tryz.underlying178, ha, Result.andThen, elemOf178, mk177]
theorem partsA177 (a : Addr) (w : World) : (ReflectliteValue.parts (val 177 a 409)).run Tryz.prog w = .ok (some (177, a, 409)) w := by kernel_rfl
theorem parts177 (a : Addr) (w : World) : (ReflectliteValue.parts (val 177 a 153)).run Tryz.prog w = .ok (some (177, a, 153)) w := by kernel_rfl
theorem direct177 (w : World) : (Rtype.directlyAssignable 177 177).run Tryz.prog w = .ok true w := by kernel_rfl
theorem valueOfCode (e : Int) (w : World) : (ReflectliteValue.unpack (.iface 128 (.int .i64 e))).run Tryz.prog w = .ok (val 128 ⟨w.heap.size, 0, none⟩ 130) (w.alloc (.cells #[.int .i64 e] 128)) := by kernel_rfl
end Go.Abs.As
