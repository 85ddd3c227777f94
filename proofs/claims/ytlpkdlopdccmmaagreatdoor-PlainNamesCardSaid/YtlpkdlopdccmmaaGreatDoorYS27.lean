/- errors.As: a *api.Fault gets the fault; a *api.Code gets its code -/
import Derived.Test.YtlpkdlopdccmmaaGreatDoorYS26
set_option linter.unusedVariables false
namespace Go.Abs.As
set_option maxHeartbeats 1000000
open Go Go.Proofs Go.RowKit Go.Extern.Stop Go.Stop Go.Extern Tryz
set_option maxRecDepth 100000
theorem valueOfFault (e f:Int)(w:World):(ReflectliteValue.unpack (.iface 105 (.agg #[.int .i64 e,.int .i64 f]))).run prog w=.ok (val 105 ⟨w.heap.size,0,none⟩ 153) (w.alloc (.cells #[.int .i64 e,.int .i64 f] 105)):=by kernel_rfl
theorem setFault (ta b:Nat)(e f:Int)(old:Array Value)(ty:TypeId)(W:World)(hb:W.heap[b]? = some (.cells #[.int .i64 e,.int .i64 f] 105))(ht:W.heap[ta]? = some (.cells old ty (0,0)))(ho:old.size=2) :
  (ReflectliteValue.set #[val 105 ⟨ta,0,none⟩ 409,val 105 ⟨b,0,none⟩ 153]).run prog W=.ok (.tuple #[]) (W.setRow ta #[.int .i64 e,.int .i64 f]):=by
 rw [rls]
 simp only [Sem.run_bind,partsA105,parts105,Result.andThen]
 have h1:=run_loadVar_row (P:=prog) W b 105 105 #[.int .i64 e,.int .i64 f] (0,0) _ hb underlying105 rfl (by kernel_rfl)
 have h2:=run_storeVar_row (P:=prog) W ta ty 105 old #[.int .i64 e,.int .i64 f] ht (by kernel_rfl) ho (by simp [Value.oneCell'])
 simp [ReflectliteValue.flagAddr,h1,Result.andThen,direct105,h2]
theorem setCode (ta b:Nat)(e:Int)(old:Array Value)(ty:TypeId)(W:World)(hb:W.heap[b]? = some (.cells #[.int .i64 e] 60))(ht:W.heap[ta]? = some (.cells old ty (0,0)))(ho:old.size=1) :
  (ReflectliteValue.set #[val 60 ⟨ta,0,none⟩ 386,val 60 ⟨b,0,none⟩ 130]).run prog W=.ok (.tuple #[]) (W.setRow ta #[.int .i64 e]):=by
 rw [rls]
 simp only [Sem.run_bind,partsA60,parts60,Result.andThen]
 have hc:W.cell? ⟨b,0,none⟩=some (.int .i64 e):=by simp [World.cell?,hb]
 have h2:(storeVar 60 ⟨ta,0,none⟩ (.int .i64 e)).run prog W=.ok () (W.setRow ta #[.int .i64 e]):=by
  have:=run_storeVar_row (P:=prog) W ta ty 60 old #[.int .i64 e] ht (by kernel_rfl) ho (by simp [Value.oneCell'])
  exact this
 simp [ReflectliteValue.flagAddr,loadVar,isAgg,underlying,underlying60,hc,Result.andThen,direct60,h2]
def wA (P:TypeId)(t:Nat)(w:World):World:=w.alloc (.cells #[.pointer (some ⟨t,0,none⟩)] P)
def wB (P:TypeId)(t:Nat)(w:World):World:=(wA P t w).alloc (.cells (cval P ⟨w.heap.size,0,none⟩ 150) 173)
def wC (P:TypeId)(t:Nat)(w:World):World:=(wB P t w).alloc (.cells (cval P ⟨w.heap.size,0,none⟩ 150) 173)
theorem size_wA (P:TypeId)(t:Nat)(w:World):(wA P t w).heap.size=w.heap.size+1:=by simp [wA]
theorem size_wB (P:TypeId)(t:Nat)(w:World):(wB P t w).heap.size=w.heap.size+1+1:=by simp [wB,wA]
theorem size_wC (P:TypeId)(t:Nat)(w:World):(wC P t w).heap.size=w.heap.size+1+1+1:=by simp [wC,wB,wA]
theorem heap_wC (P:TypeId)(t:Nat)(w:World)(b:Nat)(hb:b < w.heap.size):(wC P t w).heap[b]? = w.heap[b]?:=by
 unfold wC
 rw [RowKit.Below.heap_alloc _ _ b (by rw [size_wB];omega)]
 unfold wB
 rw [RowKit.Below.heap_alloc _ _ b (by rw [size_wA];omega)]
 unfold wA
 rw [RowKit.Below.heap_alloc _ _ b hb]
set_option maxHeartbeats 4000000 in
theorem as_fault (e f:Int)(t:Nat)(old:Array Value)(ty:TypeId)(w:World)(hg:w.cell? ⟨0,0,none⟩=some (ityp 37))(hlt:0 < w.heap.size)(ht:w.heap[t]? = some (.cells old ty (0,0)))(ho:old.size=2) :
  Calls prog 65 #[.iface 105 (.agg #[.int .i64 e,.int .i64 f]),.iface 112 (.pointer (some ⟨t,0,none⟩))] w fun ev w'=>ev=.returned (.bool true)∧w'=((wC 112 t w).alloc (.cells #[.int .i64 e,.int .i64 f] 105)).setRow t #[.int .i64 e,.int .i64 f]:=by
 have h0:=@run_callFunc_extern prog 129 _ (fun args=>ReflectliteValue.unpack (args.getD 0 (.tuple #[]))) func129 (by kernel_rfl) (by kernel_rfl) (by kernel_rfl) (by kernel_rfl)
 have h1:=@run_callFunc_extern prog 130 _ (ReflectliteValue.methodAny (ReflectliteValue.valueError "reflectlite.Value.Type" 0) (fun t _ _ _=>ReflectliteType.toType t)) func130 (by kernel_rfl) (by kernel_rfl) (by kernel_rfl) (by kernel_rfl)
 have h2:=@run_callFunc_extern prog 131 _ (ReflectliteValue.method (ReflectliteValue.valueError "reflectlite.Value.IsNil" 0) ReflectliteValue.isNil) func131 (by kernel_rfl) (by kernel_rfl) (by kernel_rfl) (by kernel_rfl)
 have h3:=@run_callFunc_extern prog 337 _ (ReflectliteType.abiMethod fun t=>do pure (.int .u8 (← Rtype.kind t))) func337 (by kernel_rfl) (by kernel_rfl) (by kernel_rfl) (by kernel_rfl)
 have h4:=@run_callFunc_extern prog 349 _ (ReflectliteType.method ReflectliteType.elem) func349 (by kernel_rfl) (by kernel_rfl) (by kernel_rfl) (by kernel_rfl)
 have h5:=@run_callFunc_extern prog 350 _ (ReflectliteType.relation "Implements" ReflectliteType.implements_) func350 (by kernel_rfl) (by kernel_rfl) (by kernel_rfl) (by kernel_rfl)
 have h6:=@run_callFunc_extern prog 202 _ ReflectliteType.typeOf func202 (by kernel_rfl) (by kernel_rfl) (by kernel_rfl) (by kernel_rfl)
 have h7:=@run_callFunc_extern prog 347 _ (ReflectliteType.relation "AssignableTo" ReflectliteType.assignableTo) func347 (by kernel_rfl) (by kernel_rfl) (by kernel_rfl) (by kernel_rfl)
 have h8:=@run_callFunc_extern prog 203 _ (ReflectliteValue.method (ReflectliteValue.valueError "reflectlite.Value.Elem" 0) ReflectliteValue.elem) func203 (by kernel_rfl) (by kernel_rfl) (by kernel_rfl) (by kernel_rfl)
 have h9:=@run_callFunc_extern prog 204 _ ReflectliteValue.set func204 (by kernel_rfl) (by kernel_rfl) (by kernel_rfl) (by kernel_rfl)
 have f0:=valueOf112
 have f1:=type112
 have mK:=methodKind
 have mE:=methodElem
 have mI:=methodImplements
 have mA:=methodAssignableTo
 have k1:=kind112
 have k2:=kind105
 have e1:=elem112
 have i1:=implements105
 have tO:=typeOf105
 have aA:=assignable105
 have v1:=valueOfFault
 have htl:t < w.heap.size:=(Array.getElem?_eq_some_iff.1 ht).1
 have n8:=isNil112 ⟨w.heap.size,0,none⟩ ⟨t,0,none⟩ (wB 112 t w) (by simp [wB,wA])
 have hg2:(wB 112 t w).cell? ⟨0,0,none⟩=some (ityp 37):=by
  unfold wB wA
  rw [World.cell?_alloc_lt _ _ ⟨0,0,none⟩ (by simp <;> omega),World.cell?_alloc_lt _ _ ⟨0,0,none⟩ hlt];exact hg
 have el:=elemV112 ⟨w.heap.size,0,none⟩ ⟨t,0,none⟩ (wC 112 t w) (by unfold wC wB wA;rw [World.cell?_alloc_lt _ _ ⟨w.heap.size,0,none⟩ (by simp;omega)];simp)
 have st:=setFault t (w.heap.size+1+1+1) e f old ty ((wC 112 t w).alloc (.cells #[.int .i64 e,.int .i64 f] 105)) (by
   rw [← size_wC 112 t w];simp [-World.alloc_eq,World.alloc])
  (by rw [RowKit.Below.heap_alloc _ _ t (by rw [size_wC];omega),heap_wC _ _ _ _ htl];exact ht) ho
 unfold wC wB wA at *
 simp only [typ,ityp,val,cval] at *
 go_enter func65,ntmps65
 go_wp2
 refine wp_loop_rounds 1 ?_
 rw [rounds_succ]
 go_wp2
 go_ret
 exact⟨rfl,rfl⟩
theorem noAs (v:Value)(xT:TypeId)(w:World):(Instr.typeAssert (.iface 105 v) xT 234 true).run prog w=.ok (.tuple #[.nilIface,.bool false]) w:=run_typeAssert_lacksB underlying234 (by kernel_rfl) (by kernel_rfl) v xT w
theorem hasUnwrap (v:Value)(xT:TypeId)(w:World):(Instr.typeAssert (.iface 105 v) xT 237 true).run prog w=.ok (.tuple #[.iface 105 v,.bool true]) w:=run_typeAssert_hasB underlying237 (by kernel_rfl) v xT w
theorem heap_last (w:World)(o:Obj):(w.alloc o).heap[w.heap.size]? = some o:=by simp [-World.alloc_eq,World.alloc]
theorem assignableN (w:World):(ReflectliteType.relation "AssignableTo" ReflectliteType.assignableTo #[typ 105,ityp 60]).run prog w=.ok (.bool false) w:=by kernel_rfl
theorem methodUnwrap (e f:Value)(w:World):(Go.method 468 105 (.agg #[e,f]) "Unwrap").run prog w=.ok (342,.agg #[e,f]) w:=by kernel_rfl
theorem unwrap_calls (e f:Int)(W:World):Calls prog 342 #[.agg #[.int .i64 e,.int .i64 f]] W fun ev w'=>ev=.returned (.iface 60 (.int .i64 e))∧w'=W.alloc (.cells #[.int .i64 e,.int .i64 f] 105):=by
 go_enter func342,ntmps342
 go_wp2
 go_ret
 exact⟨rfl,rfl⟩
set_option maxHeartbeats 4000000 in
theorem as_code (e f:Int)(t:Nat)(old:Array Value)(ty:TypeId)(w:World)(hg:w.cell? ⟨0,0,none⟩=some (ityp 37))(hlt:0 < w.heap.size)(ht:w.heap[t]? = some (.cells old ty (0,0)))(ho:old.size=1) :
  Calls prog 65 #[.iface 105 (.agg #[.int .i64 e,.int .i64 f]),.iface 111 (.pointer (some ⟨t,0,none⟩))] w fun ev w'=>ev=.returned (.bool true)∧w'=(((wC 111 t w).alloc (.cells #[.int .i64 e,.int .i64 f] 105)).alloc (.cells #[.int .i64 e] 60)).setRow t #[.int .i64 e]:=by
 have h0:=@run_callFunc_extern prog 129 _ (fun args=>ReflectliteValue.unpack (args.getD 0 (.tuple #[]))) func129 (by kernel_rfl) (by kernel_rfl) (by kernel_rfl) (by kernel_rfl)
 have h1:=@run_callFunc_extern prog 130 _ (ReflectliteValue.methodAny (ReflectliteValue.valueError "reflectlite.Value.Type" 0) (fun t _ _ _=>ReflectliteType.toType t)) func130 (by kernel_rfl) (by kernel_rfl) (by kernel_rfl) (by kernel_rfl)
 have h2:=@run_callFunc_extern prog 131 _ (ReflectliteValue.method (ReflectliteValue.valueError "reflectlite.Value.IsNil" 0) ReflectliteValue.isNil) func131 (by kernel_rfl) (by kernel_rfl) (by kernel_rfl) (by kernel_rfl)
 have h3:=@run_callFunc_extern prog 337 _ (ReflectliteType.abiMethod fun t=>do pure (.int .u8 (← Rtype.kind t))) func337 (by kernel_rfl) (by kernel_rfl) (by kernel_rfl) (by kernel_rfl)
 have h4:=@run_callFunc_extern prog 349 _ (ReflectliteType.method ReflectliteType.elem) func349 (by kernel_rfl) (by kernel_rfl) (by kernel_rfl) (by kernel_rfl)
 have h5:=@run_callFunc_extern prog 350 _ (ReflectliteType.relation "Implements" ReflectliteType.implements_) func350 (by kernel_rfl) (by kernel_rfl) (by kernel_rfl) (by kernel_rfl)
 have h6:=@run_callFunc_extern prog 202 _ ReflectliteType.typeOf func202 (by kernel_rfl) (by kernel_rfl) (by kernel_rfl) (by kernel_rfl)
 have h7:=@run_callFunc_extern prog 347 _ (ReflectliteType.relation "AssignableTo" ReflectliteType.assignableTo) func347 (by kernel_rfl) (by kernel_rfl) (by kernel_rfl) (by kernel_rfl)
 have h8:=@run_callFunc_extern prog 203 _ (ReflectliteValue.method (ReflectliteValue.valueError "reflectlite.Value.Elem" 0) ReflectliteValue.elem) func203 (by kernel_rfl) (by kernel_rfl) (by kernel_rfl) (by kernel_rfl)
 have h9:=@run_callFunc_extern prog 204 _ ReflectliteValue.set func204 (by kernel_rfl) (by kernel_rfl) (by kernel_rfl) (by kernel_rfl)
 have f0:=valueOf111
 have f1:=type111
 have mK:=methodKind
 have mE:=methodElem
 have mI:=methodImplements
 have mA:=methodAssignableTo
 have k1:=kind111
 have k2:=kind60
 have e1:=elem111
 have i1:=implements60
 have tO:=typeOf105
 have tO2:=typeOf60
 have aA:=assignable60
 have aN:=assignableN
 have mU:=methodUnwrap
 have tA:=noAs
 have tU:=hasUnwrap
 have v1:=valueOfCode
 have htl:t < w.heap.size:=(Array.getElem?_eq_some_iff.1 ht).1
 have n8:=isNil111 ⟨w.heap.size,0,none⟩ ⟨t,0,none⟩ (wB 111 t w) (by simp [wB,wA])
 have hg2:(wB 111 t w).cell? ⟨0,0,none⟩=some (ityp 37):=by
  unfold wB wA
  rw [World.cell?_alloc_lt _ _ ⟨0,0,none⟩ (by simp <;> omega),World.cell?_alloc_lt _ _ ⟨0,0,none⟩ hlt];exact hg
 have hcl:(wC 111 t w).cell? ⟨w.heap.size,0,none⟩=some (.pointer (some ⟨t,0,none⟩)):=by unfold wC wB wA;rw [World.cell?_alloc_lt _ _ ⟨w.heap.size,0,none⟩ (by simp;omega)];simp
 have el:=elemV111 ⟨w.heap.size,0,none⟩ ⟨t,0,none⟩ ((wC 111 t w).alloc (.cells #[.int .i64 e,.int .i64 f] 105)) (by rw [World.cell?_alloc_lt _ _ ⟨w.heap.size,0,none⟩ (by rw [size_wC];show w.heap.size < _;omega)];exact hcl)
 clear hcl
 have st:=setCode t (w.heap.size+1+1+1+1) e old ty (((wC 111 t w).alloc (.cells #[.int .i64 e,.int .i64 f] 105)).alloc (.cells #[.int .i64 e] 60)) (by
   have hs:((wC 111 t w).alloc (.cells #[.int .i64 e,.int .i64 f] 105)).heap.size=w.heap.size+1+1+1+1:=by simp [-World.alloc_eq,World.alloc,size_wC]
   rw [← hs];exact heap_last _ _)
  (by rw [RowKit.Below.heap_alloc _ _ t (by simp [-World.alloc_eq,World.alloc,size_wC];omega),RowKit.Below.heap_alloc _ _ t (by rw [size_wC];omega),heap_wC _ _ _ _ htl];exact ht) ho
 have hun:=fun W=>unwrap_calls e f W
 unfold wC wB wA at *
 simp only [typ,ityp,val,cval] at *
 go_enter func65,ntmps65
 go_wp2
 refine wp_loop_rounds 2 ?_
 rw [rounds_succ]
 go_wp2_with (go_at_call 342;refine (hun _).mono ?_;rintro e w' ⟨rfl,rfl⟩)
 rw [rounds_succ]
 go_wp2
 go_ret
 exact⟨rfl,rfl⟩
end Go.Abs.As
