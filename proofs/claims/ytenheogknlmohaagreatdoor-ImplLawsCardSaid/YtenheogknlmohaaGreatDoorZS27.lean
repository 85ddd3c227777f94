/- errors.As: a *api.Fault gets the fault; a *api.Code gets its code -/
import Derived.Test.YtenheogknlmohaaGreatDoorZS26
set_option linter.unusedVariables false
namespace Go.Abs.As
open Go Go.Proofs Go.RowKit Go.Extern.Stop Go.Stop Go.Extern
set_option maxRecDepth 100000

theorem valueOfFault (e f : Int) (w : World) : (ReflectliteValue.unpack (.iface 177 (.agg #[.int .i64 e, .int .i64 f]))).run Tryz.prog w = .ok (val 177 ⟨w.heap.size, 0, none⟩ 153) (w.alloc (.cells #[.int .i64 e, .int .i64 f] 177)) := by kernel_rfl
theorem setFault (ta b : Nat) (e f : Int) (old : Array Value) (ty : TypeId) (W : World) (hb : W.heap[b]? = some (.cells #[.int .i64 e, .int .i64 f] 177)) (ht : W.heap[ta]? = some (.cells old ty (0, 0))) (ho : old.size = 2) :
    (ReflectliteValue.set #[val 177 ⟨ta, 0, none⟩ 409, val 177 ⟨b, 0, none⟩ 153]).run Tryz.prog W = .ok (.tuple #[]) (W.setRow ta #[.int .i64 e, .int .i64 f]) := by
  rw [rls]
  simp only [Sem.run_bind, partsA177, parts177, Result.andThen]
  have h1 := run_loadVar_row (P := Tryz.prog) W b 177 177 #[.int .i64 e, .int .i64 f] (0, 0) _ hb Tryz.underlying177 rfl (by kernel_rfl)
  have h2 := run_storeVar_row (P := Tryz.prog) W ta ty 177 old #[.int .i64 e, .int .i64 f] ht (by kernel_rfl) ho (by simp [Value.oneCell'])
  simp [ReflectliteValue.flagAddr, h1, Result.andThen, direct177, h2]
theorem setCode (ta b : Nat) (e : Int) (old : Array Value) (ty : TypeId) (W : World) (hb : W.heap[b]? = some (.cells #[.int .i64 e] 128)) (ht : W.heap[ta]? = some (.cells old ty (0, 0))) (ho : old.size = 1) :
    (ReflectliteValue.set #[val 128 ⟨ta, 0, none⟩ 386, val 128 ⟨b, 0, none⟩ 130]).run Tryz.prog W = .ok (.tuple #[]) (W.setRow ta #[.int .i64 e]) := by
  rw [rls]
  simp only [Sem.run_bind, partsA128, parts128, Result.andThen]
  have hc : W.cell? ⟨b, 0, none⟩ = some (.int .i64 e) := by simp [World.cell?, hb]
  have h2 : (storeVar 128 ⟨ta, 0, none⟩ (.int .i64 e)).run Tryz.prog W = .ok () (W.setRow ta #[.int .i64 e]) := by
    have := run_storeVar_row (P := Tryz.prog) W ta ty 128 old #[.int .i64 e] ht (by kernel_rfl) ho (by simp [Value.oneCell'])
    exact this
  simp [ReflectliteValue.flagAddr, loadVar, isAgg, underlying, Tryz.underlying128, hc, Result.andThen, direct128, h2]
/-- the worlds on the way: the target as a value, twice boxed -/
def wA (P : TypeId) (t : Nat) (w : World) : World := w.alloc (.cells #[.pointer (some ⟨t, 0, none⟩)] P)
def wB (P : TypeId) (t : Nat) (w : World) : World := (wA P t w).alloc (.cells (cval P ⟨w.heap.size, 0, none⟩ 150) 221)
def wC (P : TypeId) (t : Nat) (w : World) : World := (wB P t w).alloc (.cells (cval P ⟨w.heap.size, 0, none⟩ 150) 221)
theorem size_wA (P : TypeId) (t : Nat) (w : World) : (wA P t w).heap.size = w.heap.size + 1 := by simp [wA]
theorem size_wB (P : TypeId) (t : Nat) (w : World) : (wB P t w).heap.size = w.heap.size + 1 + 1 := by simp [wB, wA]
theorem size_wC (P : TypeId) (t : Nat) (w : World) : (wC P t w).heap.size = w.heap.size + 1 + 1 + 1 := by simp [wC, wB, wA]
theorem heap_wC (P : TypeId) (t : Nat) (w : World) (b : Nat) (hb : b < w.heap.size) : (wC P t w).heap[b]? = w.heap[b]? := by
  unfold wC
  rw [RowKit.Below.heap_alloc _ _ b (by rw [size_wB]; omega)]
  unfold wB
  rw [RowKit.Below.heap_alloc _ _ b (by rw [size_wA]; omega)]
  unfold wA
  rw [RowKit.Below.heap_alloc _ _ b hb]
set_option maxHeartbeats 4000000 in
theorem as_fault (e f : Int) (t : Nat) (old : Array Value) (ty : TypeId) (w : World) (hg : w.cell? ⟨0, 0, none⟩ = some (ityp 65)) (hlt : 0 < w.heap.size) (ht : w.heap[t]? = some (.cells old ty (0, 0))) (ho : old.size = 2) :
    Calls Tryz.prog 136 #[.iface 177 (.agg #[.int .i64 e, .int .i64 f]), .iface 178 (.pointer (some ⟨t, 0, none⟩))] w fun ev w' => ev = .returned (.bool true) ∧ w' = ((wC 178 t w).alloc (.cells #[.int .i64 e, .int .i64 f] 177)).setRow t #[.int .i64 e, .int .i64 f] := by
  have h0 := @run_callFunc_extern Tryz.prog 182 _ (fun args => ReflectliteValue.unpack (args.getD 0 (.tuple #[]))) Tryz.func182 (by kernel_rfl) (by kernel_rfl) (by kernel_rfl) (by kernel_rfl)
  have h1 := @run_callFunc_extern Tryz.prog 183 _ (ReflectliteValue.methodAny (ReflectliteValue.valueError "reflectlite.Value.Type" 0) (fun t _ _ _ => ReflectliteType.toType t)) Tryz.func183 (by kernel_rfl) (by kernel_rfl) (by kernel_rfl) (by kernel_rfl)
  have h2 := @run_callFunc_extern Tryz.prog 184 _ (ReflectliteValue.method (ReflectliteValue.valueError "reflectlite.Value.IsNil" 0) ReflectliteValue.isNil) Tryz.func184 (by kernel_rfl) (by kernel_rfl) (by kernel_rfl) (by kernel_rfl)
  have h3 := @run_callFunc_extern Tryz.prog 266 _ (ReflectliteType.abiMethod fun t => do pure (.int .u8 (← Rtype.kind t))) Tryz.func266 (by kernel_rfl) (by kernel_rfl) (by kernel_rfl) (by kernel_rfl)
  have h4 := @run_callFunc_extern Tryz.prog 278 _ (ReflectliteType.method ReflectliteType.elem) Tryz.func278 (by kernel_rfl) (by kernel_rfl) (by kernel_rfl) (by kernel_rfl)
  have h5 := @run_callFunc_extern Tryz.prog 279 _ (ReflectliteType.relation "Implements" ReflectliteType.implements_) Tryz.func279 (by kernel_rfl) (by kernel_rfl) (by kernel_rfl) (by kernel_rfl)
  have h6 := @run_callFunc_extern Tryz.prog 214 _ ReflectliteType.typeOf Tryz.func214 (by kernel_rfl) (by kernel_rfl) (by kernel_rfl) (by kernel_rfl)
  have h7 := @run_callFunc_extern Tryz.prog 276 _ (ReflectliteType.relation "AssignableTo" ReflectliteType.assignableTo) Tryz.func276 (by kernel_rfl) (by kernel_rfl) (by kernel_rfl) (by kernel_rfl)
  have h8 := @run_callFunc_extern Tryz.prog 215 _ (ReflectliteValue.method (ReflectliteValue.valueError "reflectlite.Value.Elem" 0) ReflectliteValue.elem) Tryz.func215 (by kernel_rfl) (by kernel_rfl) (by kernel_rfl) (by kernel_rfl)
  have h9 := @run_callFunc_extern Tryz.prog 216 _ ReflectliteValue.set Tryz.func216 (by kernel_rfl) (by kernel_rfl) (by kernel_rfl) (by kernel_rfl)
  have f0 := valueOf178
  have f1 := type178
  have mK := methodKind
  have mE := methodElem
  have mI := methodImplements
  have mA := methodAssignableTo
  have k1 := kind178
  have k2 := kind177
  have e1 := elem178
  have i1 := implements177
  have tO := typeOf177
  have aA := assignable177
  have v1 := valueOfFault
  have htl : t < w.heap.size := (Array.getElem?_eq_some_iff.1 ht).1
  have n8 := isNil178 ⟨w.heap.size, 0, none⟩ ⟨t, 0, none⟩ (wB 178 t w) (by simp [wB, wA])
  have hg2 : (wB 178 t w).cell? ⟨0, 0, none⟩ = some (ityp 65) := by
    unfold wB wA
    rw [World.cell?_alloc_lt _ _ ⟨0, 0, none⟩ (by simp), World.cell?_alloc_lt _ _ ⟨0, 0, none⟩ hlt]; exact hg
  have el := elemV178 ⟨w.heap.size, 0, none⟩ ⟨t, 0, none⟩ (wC 178 t w) (by unfold wC wB wA; rw [World.cell?_alloc_lt _ _ ⟨w.heap.size, 0, none⟩ (by simp; omega)]; simp)
  have st := setFault t (w.heap.size + 1 + 1 + 1) e f old ty ((wC 178 t w).alloc (.cells #[.int .i64 e, .int .i64 f] 177)) (by
      rw [← size_wC 178 t w]; simp [-World.alloc_eq, World.alloc])
    (by rw [RowKit.Below.heap_alloc _ _ t (by rw [size_wC]; omega), heap_wC _ _ _ _ htl]; exact ht) ho
  unfold wC wB wA at *
  simp only [typ, ityp, val, cval] at *
  go_enter Tryz.func136, Tryz.ntmps136
  go_wp2
  refine wp_loop_rounds 1 ?_
  rw [rounds_succ]
  go_wp2
  go_ret
  exact ⟨rfl, rfl⟩
theorem noAs (v : Value) (xT : TypeId) (w : World) : (Instr.typeAssert (.iface 177 v) xT 254 true).run Tryz.prog w = .ok (.tuple #[.nilIface, .bool false]) w := run_typeAssert_lacksB Tryz.underlying254 (by kernel_rfl) (by kernel_rfl) v xT w
theorem hasUnwrap (v : Value) (xT : TypeId) (w : World) : (Instr.typeAssert (.iface 177 v) xT 257 true).run Tryz.prog w = .ok (.tuple #[.iface 177 v, .bool true]) w := run_typeAssert_hasB Tryz.underlying257 (by kernel_rfl) v xT w
theorem heap_last (w : World) (o : Obj) : (w.alloc o).heap[w.heap.size]? = some o := by simp [-World.alloc_eq, World.alloc]
theorem assignableN (w : World) : (ReflectliteType.relation "AssignableTo" ReflectliteType.assignableTo #[typ 177, ityp 128]).run Tryz.prog w = .ok (.bool false) w := by kernel_rfl
theorem methodUnwrap (e f : Value) (w : World) : (Go.method 425 177 (.agg #[e, f]) "Unwrap").run Tryz.prog w = .ok (271, .agg #[e, f]) w := by kernel_rfl
theorem unwrap_calls (e f : Int) (W : World) : Calls Tryz.prog 271 #[.agg #[.int .i64 e, .int .i64 f]] W fun ev w' => ev = .returned (.iface 128 (.int .i64 e)) ∧ w' = W.alloc (.cells #[.int .i64 e, .int .i64 f] 177) := by
  go_enter Tryz.func271, Tryz.ntmps271
  go_wp2
  go_ret
  exact ⟨rfl, rfl⟩
set_option maxHeartbeats 4000000 in
theorem as_code (e f : Int) (t : Nat) (old : Array Value) (ty : TypeId) (w : World) (hg : w.cell? ⟨0, 0, none⟩ = some (ityp 65)) (hlt : 0 < w.heap.size) (ht : w.heap[t]? = some (.cells old ty (0, 0))) (ho : old.size = 1) :
    Calls Tryz.prog 136 #[.iface 177 (.agg #[.int .i64 e, .int .i64 f]), .iface 175 (.pointer (some ⟨t, 0, none⟩))] w fun ev w' => ev = .returned (.bool true) ∧ w' = (((wC 175 t w).alloc (.cells #[.int .i64 e, .int .i64 f] 177)).alloc (.cells #[.int .i64 e] 128)).setRow t #[.int .i64 e] := by
  have h0 := @run_callFunc_extern Tryz.prog 182 _ (fun args => ReflectliteValue.unpack (args.getD 0 (.tuple #[]))) Tryz.func182 (by kernel_rfl) (by kernel_rfl) (by kernel_rfl) (by kernel_rfl)
  have h1 := @run_callFunc_extern Tryz.prog 183 _ (ReflectliteValue.methodAny (ReflectliteValue.valueError "reflectlite.Value.Type" 0) (fun t _ _ _ => ReflectliteType.toType t)) Tryz.func183 (by kernel_rfl) (by kernel_rfl) (by kernel_rfl) (by kernel_rfl)
  have h2 := @run_callFunc_extern Tryz.prog 184 _ (ReflectliteValue.method (ReflectliteValue.valueError "reflectlite.Value.IsNil" 0) ReflectliteValue.isNil) Tryz.func184 (by kernel_rfl) (by kernel_rfl) (by kernel_rfl) (by kernel_rfl)
  have h3 := @run_callFunc_extern Tryz.prog 266 _ (ReflectliteType.abiMethod fun t => do pure (.int .u8 (← Rtype.kind t))) Tryz.func266 (by kernel_rfl) (by kernel_rfl) (by kernel_rfl) (by kernel_rfl)
  have h4 := @run_callFunc_extern Tryz.prog 278 _ (ReflectliteType.method ReflectliteType.elem) Tryz.func278 (by kernel_rfl) (by kernel_rfl) (by kernel_rfl) (by kernel_rfl)
  have h5 := @run_callFunc_extern Tryz.prog 279 _ (ReflectliteType.relation "Implements" ReflectliteType.implements_) Tryz.func279 (by kernel_rfl) (by kernel_rfl) (by kernel_rfl) (by kernel_rfl)
  have h6 := @run_callFunc_extern Tryz.prog 214 _ ReflectliteType.typeOf Tryz.func214 (by kernel_rfl) (by kernel_rfl) (by kernel_rfl) (by kernel_rfl)
  have h7 := @run_callFunc_extern Tryz.prog 276 _ (ReflectliteType.relation "AssignableTo" ReflectliteType.assignableTo) Tryz.func276 (by kernel_rfl) (by kernel_rfl) (by kernel_rfl) (by kernel_rfl)
  have h8 := @run_callFunc_extern Tryz.prog 215 _ (ReflectliteValue.method (ReflectliteValue.valueError "reflectlite.Value.Elem" 0) ReflectliteValue.elem) Tryz.func215 (by kernel_rfl) (by kernel_rfl) (by kernel_rfl) (by kernel_rfl)
  have h9 := @run_callFunc_extern Tryz.prog 216 _ ReflectliteValue.set Tryz.func216 (by kernel_rfl) (by kernel_rfl) (by kernel_rfl) (by kernel_rfl)
  have f0 := valueOf175
  have f1 := type175
  have mK := methodKind
  have mE := methodElem
  have mI := methodImplements
  have mA := methodAssignableTo
  have k1 := kind175
  have k2 := kind128
  have e1 := elem175
  have i1 := implements128
  have tO := typeOf177
  have tO2 := typeOf128
  have aA := assignable128
  have aN := assignableN
  have mU := methodUnwrap
  have tA := noAs
  have tU := hasUnwrap
  have v1 := valueOfCode
  have htl : t < w.heap.size := (Array.getElem?_eq_some_iff.1 ht).1
  have n8 := isNil175 ⟨w.heap.size, 0, none⟩ ⟨t, 0, none⟩ (wB 175 t w) (by simp [wB, wA])
  have hg2 : (wB 175 t w).cell? ⟨0, 0, none⟩ = some (ityp 65) := by
    unfold wB wA
    rw [World.cell?_alloc_lt _ _ ⟨0, 0, none⟩ (by simp), World.cell?_alloc_lt _ _ ⟨0, 0, none⟩ hlt]; exact hg
  have hcl : (wC 175 t w).cell? ⟨w.heap.size, 0, none⟩ = some (.pointer (some ⟨t, 0, none⟩)) := by unfold wC wB wA; rw [World.cell?_alloc_lt _ _ ⟨w.heap.size, 0, none⟩ (by simp; omega)]; simp
  have el := elemV175 ⟨w.heap.size, 0, none⟩ ⟨t, 0, none⟩ ((wC 175 t w).alloc (.cells #[.int .i64 e, .int .i64 f] 177)) (by rw [World.cell?_alloc_lt _ _ ⟨w.heap.size, 0, none⟩ (by rw [size_wC]; show w.heap.size < _; omega)]; exact hcl)
  clear hcl
  have st := setCode t (w.heap.size + 1 + 1 + 1 + 1) e old ty (((wC 175 t w).alloc (.cells #[.int .i64 e, .int .i64 f] 177)).alloc (.cells #[.int .i64 e] 128)) (by
      have hs : ((wC 175 t w).alloc (.cells #[.int .i64 e, .int .i64 f] 177)).heap.size = w.heap.size + 1 + 1 + 1 + 1 := by simp [-World.alloc_eq, World.alloc, size_wC]
      rw [← hs]; exact heap_last _ _)
    (by rw [RowKit.Below.heap_alloc _ _ t (by simp [-World.alloc_eq, World.alloc, size_wC]; omega), RowKit.Below.heap_alloc _ _ t (by rw [size_wC]; omega), heap_wC _ _ _ _ htl]; exact ht) ho
  have hun := fun W => unwrap_calls e f W
  unfold wC wB wA at *
  simp only [typ, ityp, val, cval] at *
  go_enter Tryz.func136, Tryz.ntmps136
  go_wp2
  refine wp_loop_rounds 2 ?_
  rw [rounds_succ]
  go_wp2_with (go_at_call 271; refine (hun _).mono ?_; rintro e w' ⟨rfl, rfl⟩)
  rw [rounds_succ]
  go_wp2
  go_ret
  exact ⟨rfl, rfl⟩
end Go.Abs.As
