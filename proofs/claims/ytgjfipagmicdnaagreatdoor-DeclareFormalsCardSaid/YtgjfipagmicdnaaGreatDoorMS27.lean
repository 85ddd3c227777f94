/- errors.As: a *api.Fault gets the fault; a *api.Code gets its code -/
import Derived.Test.YtgjfipagmicdnaaGreatDoorMS26
set_option linter.unusedVariables false
namespace Go.Abs.As
set_option maxHeartbeats 1000000
open Go Go.Proofs Go.RowKit Go.Extern.Stop Go.Stop Go.Extern Tryz
set_option maxRecDepth 100000
theorem valueOfFault (e f:Int)(w:World):(ReflectliteValue.unpack (.iface 116 (.agg #[.int .i64 e,.int .i64 f]))).run prog w=.ok (val 116 ⟨w.heap.size,0,none⟩ 153) (w.alloc (.cells #[.int .i64 e,.int .i64 f] 116)):=by kernel_rfl
theorem setFault (ta b:Nat)(e f:Int)(old:Array Value)(ty:TypeId)(W:World)(hb:W.heap[b]? = some (.cells #[.int .i64 e,.int .i64 f] 116))(ht:W.heap[ta]? = some (.cells old ty (0,0)))(ho:old.size=2) :
  (ReflectliteValue.set #[val 116 ⟨ta,0,none⟩ 409,val 116 ⟨b,0,none⟩ 153]).run prog W=.ok (.tuple #[]) (W.setRow ta #[.int .i64 e,.int .i64 f]):=by
 rw [rls]
 simp only [Sem.run_bind,partsA116,parts116,Result.andThen]
 have h1:=run_loadVar_row (P:=prog) W b 116 116 #[.int .i64 e,.int .i64 f] (0,0) _ hb underlying116 rfl (by kernel_rfl)
 have h2:=run_storeVar_row (P:=prog) W ta ty 116 old #[.int .i64 e,.int .i64 f] ht (by kernel_rfl) ho (by simp [Value.oneCell'])
 simp [ReflectliteValue.flagAddr,h1,Result.andThen,direct116,h2]
theorem setCode (ta b:Nat)(e:Int)(old:Array Value)(ty:TypeId)(W:World)(hb:W.heap[b]? = some (.cells #[.int .i64 e] 76))(ht:W.heap[ta]? = some (.cells old ty (0,0)))(ho:old.size=1) :
  (ReflectliteValue.set #[val 76 ⟨ta,0,none⟩ 386,val 76 ⟨b,0,none⟩ 130]).run prog W=.ok (.tuple #[]) (W.setRow ta #[.int .i64 e]):=by
 rw [rls]
 simp only [Sem.run_bind,partsA76,parts76,Result.andThen]
 have hc:W.cell? ⟨b,0,none⟩=some (.int .i64 e):=by simp [World.cell?,hb]
 have h2:(storeVar 76 ⟨ta,0,none⟩ (.int .i64 e)).run prog W=.ok () (W.setRow ta #[.int .i64 e]):=by
  have:=run_storeVar_row (P:=prog) W ta ty 76 old #[.int .i64 e] ht (by kernel_rfl) ho (by simp [Value.oneCell'])
  exact this
 simp [ReflectliteValue.flagAddr,loadVar,isAgg,underlying,underlying76,hc,Result.andThen,direct76,h2]
def wA (P:TypeId)(t:Nat)(w:World):World:=w.alloc (.cells #[.pointer (some ⟨t,0,none⟩)] P)
def wB (P:TypeId)(t:Nat)(w:World):World:=(wA P t w).alloc (.cells (cval P ⟨w.heap.size,0,none⟩ 150) 161)
def wC (P:TypeId)(t:Nat)(w:World):World:=(wB P t w).alloc (.cells (cval P ⟨w.heap.size,0,none⟩ 150) 161)
theorem size_wA (P:TypeId)(t:Nat)(w:World):(wA P t w).heap.size=w.heap.size+1:=by simp [wA]
theorem size_wB (P:TypeId)(t:Nat)(w:World):(wB P t w).heap.size=w.heap.size+1+1:=by simp [wB,wA]
theorem size_wC (P:TypeId)(t:Nat)(w:World):(wC P t w).heap.size=w.heap.size+1+1+1:=by simp [wC,wB,wA]
theorem heap_wC (P:TypeId)(t:Nat)(w:World)(b:Nat)(hb:b < w.heap.size):(wC P t w).heap[b]? = w.heap[b]?:=by
 unfold wC
 rw [RowKit.Below.heap_alloc _ _ b (by rw [size_wB];omega)]
 unfold wB
 rw [RowKit.Below.heap_alloc _ _ b (by rw [size_wA];omega)]
 unfold wA
 rw [RowKit.Below.heap_alloc _ _ b hb]
set_option maxHeartbeats 4000000 in
theorem as_fault (e f:Int)(t:Nat)(old:Array Value)(ty:TypeId)(w:World)(hg:w.cell? ⟨0,0,none⟩=some (ityp 37))(hlt:0 < w.heap.size)(ht:w.heap[t]? = some (.cells old ty (0,0)))(ho:old.size=2) :
  Calls prog 75 #[.iface 116 (.agg #[.int .i64 e,.int .i64 f]),.iface 117 (.pointer (some ⟨t,0,none⟩))] w fun ev w'=>ev=.returned (.bool true)∧w'=((wC 117 t w).alloc (.cells #[.int .i64 e,.int .i64 f] 116)).setRow t #[.int .i64 e,.int .i64 f]:=by
 have h0:=@run_callFunc_extern prog 125 _ (fun args=>ReflectliteValue.unpack (args.getD 0 (.tuple #[]))) func125 (by kernel_rfl) (by kernel_rfl) (by kernel_rfl) (by kernel_rfl)
 have h1:=@run_callFunc_extern prog 126 _ (ReflectliteValue.methodAny (ReflectliteValue.valueError "reflectlite.Value.Type" 0) (fun t _ _ _=>ReflectliteType.toType t)) func126 (by kernel_rfl) (by kernel_rfl) (by kernel_rfl) (by kernel_rfl)
 have h2:=@run_callFunc_extern prog 127 _ (ReflectliteValue.method (ReflectliteValue.valueError "reflectlite.Value.IsNil" 0) ReflectliteValue.isNil) func127 (by kernel_rfl) (by kernel_rfl) (by kernel_rfl) (by kernel_rfl)
 have h3:=@run_callFunc_extern prog 259 _ (ReflectliteType.abiMethod fun t=>do pure (.int .u8 (← Rtype.kind t))) func259 (by kernel_rfl) (by kernel_rfl) (by kernel_rfl) (by kernel_rfl)
 have h4:=@run_callFunc_extern prog 271 _ (ReflectliteType.method ReflectliteType.elem) func271 (by kernel_rfl) (by kernel_rfl) (by kernel_rfl) (by kernel_rfl)
 have h5:=@run_callFunc_extern prog 272 _ (ReflectliteType.relation "Implements" ReflectliteType.implements_) func272 (by kernel_rfl) (by kernel_rfl) (by kernel_rfl) (by kernel_rfl)
 have h6:=@run_callFunc_extern prog 148 _ ReflectliteType.typeOf func148 (by kernel_rfl) (by kernel_rfl) (by kernel_rfl) (by kernel_rfl)
 have h7:=@run_callFunc_extern prog 269 _ (ReflectliteType.relation "AssignableTo" ReflectliteType.assignableTo) func269 (by kernel_rfl) (by kernel_rfl) (by kernel_rfl) (by kernel_rfl)
 have h8:=@run_callFunc_extern prog 149 _ (ReflectliteValue.method (ReflectliteValue.valueError "reflectlite.Value.Elem" 0) ReflectliteValue.elem) func149 (by kernel_rfl) (by kernel_rfl) (by kernel_rfl) (by kernel_rfl)
 have h9:=@run_callFunc_extern prog 150 _ ReflectliteValue.set func150 (by kernel_rfl) (by kernel_rfl) (by kernel_rfl) (by kernel_rfl)
 have f0:=valueOf117
 have f1:=type117
 have mK:=methodKind
 have mE:=methodElem
 have mI:=methodImplements
 have mA:=methodAssignableTo
 have k1:=kind117
 have k2:=kind116
 have e1:=elem117
 have i1:=implements116
 have tO:=typeOf116
 have aA:=assignable116
 have v1:=valueOfFault
 have htl:t < w.heap.size:=(Array.getElem?_eq_some_iff.1 ht).1
 have n8:=isNil117 ⟨w.heap.size,0,none⟩ ⟨t,0,none⟩ (wB 117 t w) (by simp [wB,wA])
 have hg2:(wB 117 t w).cell? ⟨0,0,none⟩=some (ityp 37):=by
  unfold wB wA
  rw [World.cell?_alloc_lt _ _ ⟨0,0,none⟩ (by simp),World.cell?_alloc_lt _ _ ⟨0,0,none⟩ hlt];exact hg
 have el:=elemV117 ⟨w.heap.size,0,none⟩ ⟨t,0,none⟩ (wC 117 t w) (by unfold wC wB wA;rw [World.cell?_alloc_lt _ _ ⟨w.heap.size,0,none⟩ (by simp;omega)];simp)
 have st:=setFault t (w.heap.size+1+1+1) e f old ty ((wC 117 t w).alloc (.cells #[.int .i64 e,.int .i64 f] 116)) (by
   rw [← size_wC 117 t w];simp [-World.alloc_eq,World.alloc])
  (by rw [RowKit.Below.heap_alloc _ _ t (by rw [size_wC];omega),heap_wC _ _ _ _ htl];exact ht) ho
 unfold wC wB wA at *
 simp only [typ,ityp,val,cval] at *
 go_enter func75,ntmps75
 go_wp2
 refine wp_loop_rounds 1 ?_
 rw [rounds_succ]
 go_wp2
 go_ret
 exact⟨rfl,rfl⟩
theorem noAs (v:Value)(xT:TypeId)(w:World):(Instr.typeAssert (.iface 116 v) xT 193 true).run prog w=.ok (.tuple #[.nilIface,.bool false]) w:=run_typeAssert_lacksB underlying193 (by kernel_rfl) (by kernel_rfl) v xT w
theorem hasUnwrap (v:Value)(xT:TypeId)(w:World):(Instr.typeAssert (.iface 116 v) xT 196 true).run prog w=.ok (.tuple #[.iface 116 v,.bool true]) w:=run_typeAssert_hasB underlying196 (by kernel_rfl) v xT w
theorem heap_last (w:World)(o:Obj):(w.alloc o).heap[w.heap.size]? = some o:=by simp [-World.alloc_eq,World.alloc]
theorem assignableN (w:World):(ReflectliteType.relation "AssignableTo" ReflectliteType.assignableTo #[typ 116,ityp 76]).run prog w=.ok (.bool false) w:=by kernel_rfl
theorem methodUnwrap (e f:Value)(w:World):(Go.method 412 116 (.agg #[e,f]) "Unwrap").run prog w=.ok (264,.agg #[e,f]) w:=by kernel_rfl
theorem unwrap_calls (e f:Int)(W:World):Calls prog 264 #[.agg #[.int .i64 e,.int .i64 f]] W fun ev w'=>ev=.returned (.iface 76 (.int .i64 e))∧w'=W.alloc (.cells #[.int .i64 e,.int .i64 f] 116):=by
 go_enter func264,ntmps264
 go_wp2
 go_ret
 exact⟨rfl,rfl⟩
set_option maxHeartbeats 4000000 in
theorem as_code (e f:Int)(t:Nat)(old:Array Value)(ty:TypeId)(w:World)(hg:w.cell? ⟨0,0,none⟩=some (ityp 37))(hlt:0 < w.heap.size)(ht:w.heap[t]? = some (.cells old ty (0,0)))(ho:old.size=1) :
  Calls prog 75 #[.iface 116 (.agg #[.int .i64 e,.int .i64 f]),.iface 114 (.pointer (some ⟨t,0,none⟩))] w fun ev w'=>ev=.returned (.bool true)∧w'=(((wC 114 t w).alloc (.cells #[.int .i64 e,.int .i64 f] 116)).alloc (.cells #[.int .i64 e] 76)).setRow t #[.int .i64 e]:=by
 have h0:=@run_callFunc_extern prog 125 _ (fun args=>ReflectliteValue.unpack (args.getD 0 (.tuple #[]))) func125 (by kernel_rfl) (by kernel_rfl) (by kernel_rfl) (by kernel_rfl)
 have h1:=@run_callFunc_extern prog 126 _ (ReflectliteValue.methodAny (ReflectliteValue.valueError "reflectlite.Value.Type" 0) (fun t _ _ _=>ReflectliteType.toType t)) func126 (by kernel_rfl) (by kernel_rfl) (by kernel_rfl) (by kernel_rfl)
 have h2:=@run_callFunc_extern prog 127 _ (ReflectliteValue.method (ReflectliteValue.valueError "reflectlite.Value.IsNil" 0) ReflectliteValue.isNil) func127 (by kernel_rfl) (by kernel_rfl) (by kernel_rfl) (by kernel_rfl)
 have h3:=@run_callFunc_extern prog 259 _ (ReflectliteType.abiMethod fun t=>do pure (.int .u8 (← Rtype.kind t))) func259 (by kernel_rfl) (by kernel_rfl) (by kernel_rfl) (by kernel_rfl)
 have h4:=@run_callFunc_extern prog 271 _ (ReflectliteType.method ReflectliteType.elem) func271 (by kernel_rfl) (by kernel_rfl) (by kernel_rfl) (by kernel_rfl)
 have h5:=@run_callFunc_extern prog 272 _ (ReflectliteType.relation "Implements" ReflectliteType.implements_) func272 (by kernel_rfl) (by kernel_rfl) (by kernel_rfl) (by kernel_rfl)
 have h6:=@run_callFunc_extern prog 148 _ ReflectliteType.typeOf func148 (by kernel_rfl) (by kernel_rfl) (by kernel_rfl) (by kernel_rfl)
 have h7:=@run_callFunc_extern prog 269 _ (ReflectliteType.relation "AssignableTo" ReflectliteType.assignableTo) func269 (by kernel_rfl) (by kernel_rfl) (by kernel_rfl) (by kernel_rfl)
 have h8:=@run_callFunc_extern prog 149 _ (ReflectliteValue.method (ReflectliteValue.valueError "reflectlite.Value.Elem" 0) ReflectliteValue.elem) func149 (by kernel_rfl) (by kernel_rfl) (by kernel_rfl) (by kernel_rfl)
 have h9:=@run_callFunc_extern prog 150 _ ReflectliteValue.set func150 (by kernel_rfl) (by kernel_rfl) (by kernel_rfl) (by kernel_rfl)
 have f0:=valueOf114
 have f1:=type114
 have mK:=methodKind
 have mE:=methodElem
 have mI:=methodImplements
 have mA:=methodAssignableTo
 have k1:=kind114
 have k2:=kind76
 have e1:=elem114
 have i1:=implements76
 have tO:=typeOf116
 have tO2:=typeOf76
 have aA:=assignable76
 have aN:=assignableN
 have mU:=methodUnwrap
 have tA:=noAs
 have tU:=hasUnwrap
 have v1:=valueOfCode
 have htl:t < w.heap.size:=(Array.getElem?_eq_some_iff.1 ht).1
 have n8:=isNil114 ⟨w.heap.size,0,none⟩ ⟨t,0,none⟩ (wB 114 t w) (by simp [wB,wA])
 have hg2:(wB 114 t w).cell? ⟨0,0,none⟩=some (ityp 37):=by
  unfold wB wA
  rw [World.cell?_alloc_lt _ _ ⟨0,0,none⟩ (by simp),World.cell?_alloc_lt _ _ ⟨0,0,none⟩ hlt];exact hg
 have hcl:(wC 114 t w).cell? ⟨w.heap.size,0,none⟩=some (.pointer (some ⟨t,0,none⟩)):=by unfold wC wB wA;rw [World.cell?_alloc_lt _ _ ⟨w.heap.size,0,none⟩ (by simp;omega)];simp
 have el:=elemV114 ⟨w.heap.size,0,none⟩ ⟨t,0,none⟩ ((wC 114 t w).alloc (.cells #[.int .i64 e,.int .i64 f] 116)) (by rw [World.cell?_alloc_lt _ _ ⟨w.heap.size,0,none⟩ (by rw [size_wC];show w.heap.size < _;omega)];exact hcl)
 clear hcl
 have st:=setCode t (w.heap.size+1+1+1+1) e old ty (((wC 114 t w).alloc (.cells #[.int .i64 e,.int .i64 f] 116)).alloc (.cells #[.int .i64 e] 76)) (by
   have hs:((wC 114 t w).alloc (.cells #[.int .i64 e,.int .i64 f] 116)).heap.size=w.heap.size+1+1+1+1:=by simp [-World.alloc_eq,World.alloc,size_wC]
   rw [← hs];exact heap_last _ _)
  (by rw [RowKit.Below.heap_alloc _ _ t (by simp [-World.alloc_eq,World.alloc,size_wC];omega),RowKit.Below.heap_alloc _ _ t (by rw [size_wC];omega),heap_wC _ _ _ _ htl];exact ht) ho
 have hun:=fun W=>unwrap_calls e f W
 unfold wC wB wA at *
 simp only [typ,ityp,val,cval] at *
 go_enter func75,ntmps75
 go_wp2
 refine wp_loop_rounds 2 ?_
 rw [rounds_succ]
 go_wp2_with (go_at_call 264;refine (hun _).mono ?_;rintro e w' ⟨rfl,rfl⟩)
 rw [rounds_succ]
 go_wp2
 go_ret
 exact⟨rfl,rfl⟩
end Go.Abs.As
