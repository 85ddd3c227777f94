/- errors.As: a *api.Fault gets the fault; a *api.Code gets its code -/
import Derived.Test.YtieakoebgfiniaaGreatDoorZS26
set_option linter.all false
set_option maxHeartbeats 1000000
set_option maxRecDepth 100000
namespace Go.Abs.As
open Go Go.Proofs Go.RowKit Go.Extern.Stop Go.Stop Go.Extern Tryz
def H2q(e f:Int)(w:World):(ReflectliteValue.unpack (.iface 136 (.agg #[.int .i64 e,.int .i64 f]))).run prog w=.ok (val 136 ⟨w.heap.size,0,none⟩ 153) (w.alloc (.cells #[.int .i64 e,.int .i64 f] 136)):=by kernel_rfl
def H4k(E b:Nat)(e f:Int)(Gr:Array Value)(ty:TypeId)(W:World)(O:W.heap[b]?=some (.cells #[.int .i64 e,.int .i64 f] 136))(ht:W.heap[E]?=some (.cells Gr ty (0,0)))(I:Gr.size=2) :
  (ReflectliteValue.set #[val 136 ⟨E,0,none⟩ 409,val 136 ⟨b,0,none⟩ 153]).run prog W=.ok (.tuple #[]) (W.setRow E #[.int .i64 e,.int .i64 f]):=by
 rw[rls];simp only[Sem.run_bind,G4o,G3i,Result.andThen];have J:=run_loadVar_row (P:=prog) W b 136 136 #[.int .i64 e,.int .i64 f] (0,0) _ O underlying136 rfl (by kernel_rfl);have L:=run_storeVar_row (P:=prog) W E ty 136 Gr #[.int .i64 e,.int .i64 f] ht (by kernel_rfl) I (by simp[Value.oneCell']);simp[ReflectliteValue.flagAddr,J,Result.andThen,F7v,L]
def H4v(E b:Nat)(e:Int)(Gr:Array Value)(ty:TypeId)(W:World)(O:W.heap[b]?=some (.cells #[.int .i64 e] 72))(ht:W.heap[E]?=some (.cells Gr ty (0,0)))(I:Gr.size=1) :
  (ReflectliteValue.set #[val 72 ⟨E,0,none⟩ 386,val 72 ⟨b,0,none⟩ 130]).run prog W=.ok (.tuple #[]) (W.setRow E #[.int .i64 e]):=by
 rw[rls];simp only[Sem.run_bind,F2z,H5d,Result.andThen];have L:W.cell? ⟨b,0,none⟩=some (.int .i64 e):=by simp[World.cell?,O]
 have J:(storeVar 72 ⟨E,0,none⟩ (.int .i64 e)).run prog W=.ok () (W.setRow E #[.int .i64 e]):=by have:=run_storeVar_row (P:=prog) W E ty 72 Gr #[.int .i64 e] ht (by kernel_rfl) I (by simp[Value.oneCell']);exact this
 simp[ReflectliteValue.flagAddr,loadVar,isAgg,underlying,underlying72,L,Result.andThen,G0p,J]
def wA(P:TypeId)(t:Nat)(w:World):World:=w.alloc (.cells #[.pointer (some ⟨t,0,none⟩)] P)
def wB(P:TypeId)(t:Nat)(w:World):World:=(wA P t w).alloc (.cells (C0q P ⟨w.heap.size,0,none⟩ 150) 219)
def wC(P:TypeId)(t:Nat)(w:World):World:=(wB P t w).alloc (.cells (C0q P ⟨w.heap.size,0,none⟩ 150) 219)
def F0o(P:TypeId)(t:Nat)(w:World):(wA P t w).heap.size=w.heap.size+1:=by simp[wA]
def F8q(P:TypeId)(t:Nat)(w:World):(wB P t w).heap.size=w.heap.size+1+1:=by simp[wB,wA]
def Yv(P:TypeId)(t:Nat)(w:World):(wC P t w).heap.size=w.heap.size+1+1+1:=by simp[wC,wB,wA]
def B8w(P:TypeId)(t:Nat)(w:World)(b:Nat)(E:b<w.heap.size):(wC P t w).heap[b]?=w.heap[b]?:=by unfold wC;rw[RowKit.Below.heap_alloc _ _ b (by rw[F8q];omega)];unfold wB;rw[RowKit.Below.heap_alloc _ _ b (by rw[F0o];omega)];unfold wA;rw[RowKit.Below.heap_alloc _ _ b E]
set_option maxHeartbeats 4000000 in
def H0y(e f:Int)(t:Nat)(Gr:Array Value)(ty:TypeId)(w:World)(O:w.cell? ⟨0,0,none⟩=some (Ke 40))(I:0<w.heap.size)(ht:w.heap[t]?=some (.cells Gr ty (0,0)))(L:Gr.size=2) :
  Calls prog 97 #[.iface 136 (.agg #[.int .i64 e,.int .i64 f]),.iface 158 (.pointer (some ⟨t,0,none⟩))] w λev w'=>ev=.returned (.bool true)/\w'=((wC 158 t w).alloc (.cells #[.int .i64 e,.int .i64 f] 136)).setRow t #[.int .i64 e,.int .i64 f]:=by
 have h0:=@run_callFunc_extern prog 167 _ (λargs=>ReflectliteValue.unpack (args.getD 0 (.tuple #[]))) func167 (by kernel_rfl) (by kernel_rfl) (by kernel_rfl) (by kernel_rfl)
 have h1:=@run_callFunc_extern prog 168 _ (ReflectliteValue.methodAny (ReflectliteValue.valueError "reflectlite.Value.Type" 0) (λt _ _ _=>ReflectliteType.toType t)) func168 (by kernel_rfl) (by kernel_rfl) (by kernel_rfl) (by kernel_rfl)
 have W:=@run_callFunc_extern prog 169 _ (ReflectliteValue.method (ReflectliteValue.valueError "reflectlite.Value.IsNil" 0) ReflectliteValue.isNil) func169 (by kernel_rfl) (by kernel_rfl) (by kernel_rfl) (by kernel_rfl)
 have h3:=@run_callFunc_extern prog 375 _ (ReflectliteType.abiMethod λt=>do pure (.int .u8 (<-Rtype.kind t))) func375 (by kernel_rfl) (by kernel_rfl) (by kernel_rfl) (by kernel_rfl);have h4:=@run_callFunc_extern prog 387 _ (ReflectliteType.method ReflectliteType.elem) func387 (by kernel_rfl) (by kernel_rfl) (by kernel_rfl) (by kernel_rfl)
 have h5:=@run_callFunc_extern prog 388 _ (ReflectliteType.relation "Implements" ReflectliteType.implements_) func388 (by kernel_rfl) (by kernel_rfl) (by kernel_rfl) (by kernel_rfl)
 have h6:=@run_callFunc_extern prog 250 _ ReflectliteType.typeOf func250 (by kernel_rfl) (by kernel_rfl) (by kernel_rfl) (by kernel_rfl)
 have U:=@run_callFunc_extern prog 385 _ (ReflectliteType.relation "AssignableTo" ReflectliteType.assignableTo) func385 (by kernel_rfl) (by kernel_rfl) (by kernel_rfl) (by kernel_rfl)
 have Z:=@run_callFunc_extern prog 251 _ (ReflectliteValue.method (ReflectliteValue.valueError "reflectlite.Value.Elem" 0) ReflectliteValue.elem) func251 (by kernel_rfl) (by kernel_rfl) (by kernel_rfl) (by kernel_rfl)
 have h9:=@run_callFunc_extern prog 252 _ ReflectliteValue.set func252 (by kernel_rfl) (by kernel_rfl) (by kernel_rfl) (by kernel_rfl);have f0:=G2b;have f1:=type158;have mK:=D6x;have mE:=D2n;have V:=D4n;have mA:=E4m;have k1:=G4x;have k2:=E9o;have e1:=F3z;have i1:=H3x;have tO:=D1b;have aA:=F9x;have v1:=H2q;have E:t<w.heap.size:=(Array.getElem?_eq_some_iff.1 ht).1;have n8:=F0t ⟨w.heap.size,0,none⟩ ⟨t,0,none⟩ (wB 158 t w) (by simp[wB,wA]);have J:(wB 158 t w).cell? ⟨0,0,none⟩=some (Ke 40):=by unfold wB wA;rw[World.cell?_alloc_lt _ _ ⟨0,0,none⟩ (by simp <;> omega),World.cell?_alloc_lt _ _ ⟨0,0,none⟩ I];exact O
 have el:=F2e ⟨w.heap.size,0,none⟩ ⟨t,0,none⟩ (wC 158 t w) (by unfold wC wB wA;rw[World.cell?_alloc_lt _ _ ⟨w.heap.size,0,none⟩ (by simp;omega)];simp);have st:=H4k t (w.heap.size+1+1+1) e f Gr ty ((wC 158 t w).alloc (.cells #[.int .i64 e,.int .i64 f] 136)) (by
   rw[<-Yv 158 t w];simp[-World.alloc_eq,World.alloc])
  (by rw[RowKit.Below.heap_alloc _ _ t (by rw[Yv];omega),B8w _ _ _ _ E];exact ht) L
 unfold wC wB wA at*;simp only[Ig,Ke,val,C0q]at*
 go_enter func97,ntmps97
 go_wp2
 refine wp_loop_rounds 1 ?_;rw[rounds_succ]
 go_wp2
 go_ret
 exact⟨rfl,rfl⟩
def F6o(v:Value)(E:TypeId)(w:World):(Instr.typeAssert (.iface 136 v) E 288 true).run prog w=.ok (.tuple #[.nilIface,.bool false]) w:=run_typeAssert_lacksB underlying288 (by kernel_rfl) (by kernel_rfl) v E w
def F3h(v:Value)(E:TypeId)(w:World):(Instr.typeAssert (.iface 136 v) E 291 true).run prog w=.ok (.tuple #[.iface 136 v,.bool true]) w:=run_typeAssert_hasB underlying291 (by kernel_rfl) v E w
def F2h(w:World)(o:Obj):(w.alloc o).heap[w.heap.size]?=some o:=by simp[-World.alloc_eq,World.alloc]
def G8p(w:World):(ReflectliteType.relation "AssignableTo" ReflectliteType.assignableTo #[Ig 136,Ke 72]).run prog w=.ok (.bool false) w:=by kernel_rfl
def H3f(e f:Value)(w:World):(Go.method 514 136 (.agg #[e,f]) "Unwrap").run prog w=.ok (380,.agg #[e,f]) w:=by kernel_rfl
def H0b(e f:Int)(W:World):Calls prog 380 #[.agg #[.int .i64 e,.int .i64 f]] W λev w'=>ev=.returned (.iface 72 (.int .i64 e))/\w'=W.alloc (.cells #[.int .i64 e,.int .i64 f] 136):=by
 go_enter func380,ntmps380
 go_wp2
 go_ret
 exact⟨rfl,rfl⟩
set_option maxHeartbeats 4000000 in
def G5o(e f:Int)(t:Nat)(Gr:Array Value)(ty:TypeId)(w:World)(Z:w.cell? ⟨0,0,none⟩=some (Ke 40))(J:0<w.heap.size)(ht:w.heap[t]?=some (.cells Gr ty (0,0)))(U:Gr.size=1) :
  Calls prog 97 #[.iface 136 (.agg #[.int .i64 e,.int .i64 f]),.iface 157 (.pointer (some ⟨t,0,none⟩))] w λev w'=>ev=.returned (.bool true)/\w'=(((wC 157 t w).alloc (.cells #[.int .i64 e,.int .i64 f] 136)).alloc (.cells #[.int .i64 e] 72)).setRow t #[.int .i64 e]:=by
 have h0:=@run_callFunc_extern prog 167 _ (λargs=>ReflectliteValue.unpack (args.getD 0 (.tuple #[]))) func167 (by kernel_rfl) (by kernel_rfl) (by kernel_rfl) (by kernel_rfl)
 have h1:=@run_callFunc_extern prog 168 _ (ReflectliteValue.methodAny (ReflectliteValue.valueError "reflectlite.Value.Type" 0) (λt _ _ _=>ReflectliteType.toType t)) func168 (by kernel_rfl) (by kernel_rfl) (by kernel_rfl) (by kernel_rfl)
 have h2:=@run_callFunc_extern prog 169 _ (ReflectliteValue.method (ReflectliteValue.valueError "reflectlite.Value.IsNil" 0) ReflectliteValue.isNil) func169 (by kernel_rfl) (by kernel_rfl) (by kernel_rfl) (by kernel_rfl)
 have h3:=@run_callFunc_extern prog 375 _ (ReflectliteType.abiMethod λt=>do pure (.int .u8 (<-Rtype.kind t))) func375 (by kernel_rfl) (by kernel_rfl) (by kernel_rfl) (by kernel_rfl);have h4:=@run_callFunc_extern prog 387 _ (ReflectliteType.method ReflectliteType.elem) func387 (by kernel_rfl) (by kernel_rfl) (by kernel_rfl) (by kernel_rfl)
 have h5:=@run_callFunc_extern prog 388 _ (ReflectliteType.relation "Implements" ReflectliteType.implements_) func388 (by kernel_rfl) (by kernel_rfl) (by kernel_rfl) (by kernel_rfl)
 have h6:=@run_callFunc_extern prog 250 _ ReflectliteType.typeOf func250 (by kernel_rfl) (by kernel_rfl) (by kernel_rfl) (by kernel_rfl)
 have h7:=@run_callFunc_extern prog 385 _ (ReflectliteType.relation "AssignableTo" ReflectliteType.assignableTo) func385 (by kernel_rfl) (by kernel_rfl) (by kernel_rfl) (by kernel_rfl)
 have h8:=@run_callFunc_extern prog 251 _ (ReflectliteValue.method (ReflectliteValue.valueError "reflectlite.Value.Elem" 0) ReflectliteValue.elem) func251 (by kernel_rfl) (by kernel_rfl) (by kernel_rfl) (by kernel_rfl)
 have h9:=@run_callFunc_extern prog 252 _ ReflectliteValue.set func252 (by kernel_rfl) (by kernel_rfl) (by kernel_rfl) (by kernel_rfl);have f0:=H2y;have f1:=type157;have mK:=D6x;have mE:=D2n;have mI:=D4n;have mA:=E4m;have k1:=H3t;have k2:=H4e;have e1:=H0j;have i1:=F3k;have tO:=D1b;have V:=E8u;have aA:=H0c;have aN:=G8p;have mU:=H3f;have tA:=F6o;have tU:=F3h;have v1:=F8j;have I:t<w.heap.size:=(Array.getElem?_eq_some_iff.1 ht).1;have n8:=H0m ⟨w.heap.size,0,none⟩ ⟨t,0,none⟩ (wB 157 t w) (by simp[wB,wA]);have O:(wB 157 t w).cell? ⟨0,0,none⟩=some (Ke 40):=by unfold wB wA;rw[World.cell?_alloc_lt _ _ ⟨0,0,none⟩ (by simp <;> omega),World.cell?_alloc_lt _ _ ⟨0,0,none⟩ J];exact Z
 have E:(wC 157 t w).cell? ⟨w.heap.size,0,none⟩=some (.pointer (some ⟨t,0,none⟩)):=by unfold wC wB wA;rw[World.cell?_alloc_lt _ _ ⟨w.heap.size,0,none⟩ (by simp;omega)];simp
 have el:=H4j ⟨w.heap.size,0,none⟩ ⟨t,0,none⟩ ((wC 157 t w).alloc (.cells #[.int .i64 e,.int .i64 f] 136)) (by rw[World.cell?_alloc_lt _ _ ⟨w.heap.size,0,none⟩ (by rw[Yv];show w.heap.size<_;omega)];exact E);clear E;have st:=H4v t (w.heap.size+1+1+1+1) e Gr ty (((wC 157 t w).alloc (.cells #[.int .i64 e,.int .i64 f] 136)).alloc (.cells #[.int .i64 e] 72)) (by
   have hs:((wC 157 t w).alloc (.cells #[.int .i64 e,.int .i64 f] 136)).heap.size=w.heap.size+1+1+1+1:=by simp[-World.alloc_eq,World.alloc,Yv]
   rw[<-hs];exact F2h _ _)
  (by rw[RowKit.Below.heap_alloc _ _ t (by simp[-World.alloc_eq,World.alloc,Yv];omega),RowKit.Below.heap_alloc _ _ t (by rw[Yv];omega),B8w _ _ _ _ I];exact ht) U
 have L:=λW=>H0b e f W;unfold wC wB wA at*;simp only[Ig,Ke,val,C0q]at*
 go_enter func97,ntmps97
 go_wp2
 refine wp_loop_rounds 2 ?_;rw[rounds_succ]
 go_wp2_with (go_at_call 380;refine(L _).mono ?_;rintro e w' ⟨rfl,rfl⟩)
 rw[rounds_succ]
 go_wp2
 go_ret
 exact⟨rfl,rfl⟩
end Go.Abs.As
