import Derived.WalkKit
import Derived.LaidEql
import Derived.Stop.Asserts
import Derived.RowKitTokens
import Derived.Laws.Tables
import Derived.Test.YtoajimpjknbnoaaGreatDoorKShelfS
import Derived.Test.YtoajimpjknbnoaaGreatDoorKS36
set_option linter.all false
set_option maxHeartbeats 1000000
set_option maxRecDepth 100000
namespace Go.iA.As
open Go Go.Proofs Go.RowKit Go.Extern.Stop Go.Stop Go.Extern Tryz
abbrev Fe(t:Nat):Value:=.agg #[.pointer (some ⟨4,t,none⟩)]
abbrev Lv(t:Nat):Value:=.iface 273 (Fe t)
abbrev val(t:Nat)(a:Addr)(f:Int):Value:=.agg #[.pointer (some ⟨4,t,none⟩),.pointer (some a),.int .u64 f]
abbrev kO(t:Nat)(a:Addr)(f:Int):Array Value:=#[.pointer (some ⟨4,t,none⟩),.pointer (some a),.int .u64 f]
def Cl(h:Value)(w:World):(Go.method 513 273 (.agg #[h]) "Kind").run prog w=.ok (374,h) w:=by kernel_rfl
def vj(h:Value)(w:World):(Go.method 513 273 (.agg #[h]) "Elem").run prog w=.ok (386,.agg #[h]) w:=by kernel_rfl
def ZW(h:Value)(w:World):(Go.method 513 273 (.agg #[h]) "Implements").run prog w=.ok (387,.agg #[h]) w:=by kernel_rfl
def VW(h:Value)(w:World):(Go.method 513 273 (.agg #[h]) "AssignableTo").run prog w=.ok (384,.agg #[h]) w:=by kernel_rfl
def rlm(z:Sem Value)(f:TypeId->Addr->Nat->Nat->Sem Value)(v:Value) :ReflectliteValue.method z f #[v]=(do match <-ReflectliteValue.parts v with|none=>z|some (t,a,E)=>f t a E (E % 32)):=rfl
def rls(v x:Value):ReflectliteValue.set #[v,x]=(do
  let (some (dst,a,E),some (src,b,_)):=(<-ReflectliteValue.parts v,<-ReflectliteValue.parts x)
   |unsupported (.noEntry "extern/(internal/reflectlite.Value).Set.zeroValue")
  if E / ReflectliteValue.flagAddr % 2 ==0 then unsupported (.noEntry "extern/(internal/reflectlite.Value).Set.unaddressable")
  let val <-loadVar src b
  if <-Rtype.directlyAssignable dst src then storeVar dst a val
  else if <-Rtype.implements dst src then
   if(<-Rtype.kind src) ==20 then
    match val with
    |.nilIface=>unsupported (.noEntry "extern/reflectlite: a nil value of one interface type handed on as a value of another")
    |_=>storeVar dst a val
   else storeVar dst a (.iface src val)
  else panicString ("reflectlite.Set: value of type "++(<-Rtype.spelt src) ++ " is not assignable to type "++(<-Rtype.spelt dst))
  pure (.tuple #[])):=rfl
def G5s(t:Addr)(w:World):(ReflectliteValue.unpack (.iface 134 (.pointer (some t)))).run prog w=.ok (val 134 ⟨w.heap.size,0,none⟩ 150) (w.alloc (.cells #[.pointer (some t)] 134)):=by kernel_rfl
def type134(a:Addr)(w:World):(ReflectliteValue.methodAny (ReflectliteValue.valueError "reflectlite.Value.Type" 0) (λt _ _ _=>ReflectliteType.toType t) #[val 134 a 150]).run prog w=.ok (Lv 134) w:=by kernel_rfl
def H7q(w:World):((ReflectliteType.abiMethod λt=>(λa:Nat=>Value.int IntKind.u8 (a:Int)) <$> Rtype.kind t) #[.pointer (some ⟨4,134,none⟩)]).run prog w=.ok (.int .u8 22) w:=by kernel_rfl
def F8a(w:World):((ReflectliteType.abiMethod λt=>(λa:Nat=>Value.int IntKind.u8 (a:Int)) <$> Rtype.kind t) #[.pointer (some ⟨4,69,none⟩)]).run prog w=.ok (.int .u8 2) w:=by kernel_rfl
def MY(a:Addr)(w:World):(ReflectliteValue.parts (val 134 a 150)).run prog w=.ok (some (134,a,150)) w:=by kernel_rfl
def G5r(a p:Addr)(W:World)(E:W.cell? a=some (.pointer (some p))) :(ReflectliteValue.method (ReflectliteValue.valueError "reflectlite.Value.IsNil" 0) ReflectliteValue.isNil #[val 134 a 150]).run prog W=.ok (.bool false) W:=by rw[rlm];simp only[Ha,MY,Result.andThen];simp[ReflectliteValue.isNil,loadVar,isAgg,underlying,underlying134,E,Result.andThen]
def G1y(w:World):(ReflectliteType.method ReflectliteType.elem #[Fe 134]).run prog w=.ok (Lv 69) w:=by kernel_rfl
def wz(w:World):(ReflectliteType.relation "Implements" ReflectliteType.implements_ #[Fe 69,Lv 40]).run prog w=.ok (.bool true) w:=by kernel_rfl
def dw(v:Value)(w:World):(ReflectliteType.typeOf #[.iface 69 v]).run prog w=.ok (Lv 69) w:=by kernel_rfl
def H5k(w:World):(ReflectliteType.relation "AssignableTo" ReflectliteType.assignableTo #[Fe 69,Lv 69]).run prog w=.ok (.bool true) w:=by kernel_rfl
def F7s(w:World):(Rtype.elem? 134).run prog w=.ok (some 69) w:=by kernel_rfl
def G8v(p:Addr)(w:World):(ReflectliteValue.mk 69 p ReflectliteValue.flagAddr).run prog w=.ok (val 69 p 386) w:=by kernel_rfl
def H4n(a p:Addr)(W:World)(E:W.cell? a=some (.pointer (some p))) :(ReflectliteValue.method (ReflectliteValue.valueError "reflectlite.Value.Elem" 0) ReflectliteValue.elem #[val 134 a 150]).run prog W=.ok (val 69 p 386) W:=by rw[rlm];simp only[Ha,MY,Result.andThen];simp[ReflectliteValue.elem,loadVar,isAgg,underlying,underlying134,E,Result.andThen,F7s,G8v]
def xw(a:Addr)(w:World):(ReflectliteValue.parts (val 69 a 386)).run prog w=.ok (some (69,a,386)) w:=by kernel_rfl
def G8c(a:Addr)(w:World):(ReflectliteValue.parts (val 69 a 130)).run prog w=.ok (some (69,a,130)) w:=by kernel_rfl
def H5w(w:World):(Rtype.directlyAssignable 69 69).run prog w=.ok true w:=by kernel_rfl
def H4u(t:Addr)(w:World):(ReflectliteValue.unpack (.iface 135 (.pointer (some t)))).run prog w=.ok (val 135 ⟨w.heap.size,0,none⟩ 150) (w.alloc (.cells #[.pointer (some t)] 135)):=by kernel_rfl
def type135(a:Addr)(w:World):(ReflectliteValue.methodAny (ReflectliteValue.valueError "reflectlite.Value.Type" 0) (λt _ _ _=>ReflectliteType.toType t) #[val 135 a 150]).run prog w=.ok (Lv 135) w:=by kernel_rfl
def F8u(w:World):((ReflectliteType.abiMethod λt=>(λa:Nat=>Value.int IntKind.u8 (a:Int)) <$> Rtype.kind t) #[.pointer (some ⟨4,135,none⟩)]).run prog w=.ok (.int .u8 22) w:=by kernel_rfl
def cu(w:World):((ReflectliteType.abiMethod λt=>(λa:Nat=>Value.int IntKind.u8 (a:Int)) <$> Rtype.kind t) #[.pointer (some ⟨4,128,none⟩)]).run prog w=.ok (.int .u8 25) w:=by kernel_rfl
def F1(a:Addr)(w:World):(ReflectliteValue.parts (val 135 a 150)).run prog w=.ok (some (135,a,150)) w:=by kernel_rfl
def F4q(a p:Addr)(W:World)(E:W.cell? a=some (.pointer (some p))) :(ReflectliteValue.method (ReflectliteValue.valueError "reflectlite.Value.IsNil" 0) ReflectliteValue.isNil #[val 135 a 150]).run prog W=.ok (.bool false) W:=by rw[rlm];simp only[Ha,F1,Result.andThen];simp[ReflectliteValue.isNil,loadVar,isAgg,underlying,underlying135,E,Result.andThen]
def uu(w:World):(ReflectliteType.method ReflectliteType.elem #[Fe 135]).run prog w=.ok (Lv 128) w:=by kernel_rfl
def G8r(w:World):(ReflectliteType.relation "Implements" ReflectliteType.implements_ #[Fe 128,Lv 40]).run prog w=.ok (.bool true) w:=by kernel_rfl
def dj(v:Value)(w:World):(ReflectliteType.typeOf #[.iface 128 v]).run prog w=.ok (Lv 128) w:=by kernel_rfl
def H4q(w:World):(ReflectliteType.relation "AssignableTo" ReflectliteType.assignableTo #[Fe 128,Lv 128]).run prog w=.ok (.bool true) w:=by kernel_rfl
def G1g(w:World):(Rtype.elem? 135).run prog w=.ok (some 128) w:=by kernel_rfl
def H2b(p:Addr)(w:World):(ReflectliteValue.mk 128 p ReflectliteValue.flagAddr).run prog w=.ok (val 128 p 409) w:=by kernel_rfl
def F7t(a p:Addr)(W:World)(E:W.cell? a=some (.pointer (some p))) :(ReflectliteValue.method (ReflectliteValue.valueError "reflectlite.Value.Elem" 0) ReflectliteValue.elem #[val 135 a 150]).run prog W=.ok (val 128 p 409) W:=by rw[rlm];simp only[Ha,F1,Result.andThen];simp[ReflectliteValue.elem,loadVar,isAgg,underlying,underlying135,E,Result.andThen,G1g,H2b]
def H3r(a:Addr)(w:World):(ReflectliteValue.parts (val 128 a 409)).run prog w=.ok (some (128,a,409)) w:=by kernel_rfl
def G6s(a:Addr)(w:World):(ReflectliteValue.parts (val 128 a 153)).run prog w=.ok (some (128,a,153)) w:=by kernel_rfl
def G1r(w:World):(Rtype.directlyAssignable 128 128).run prog w=.ok true w:=by kernel_rfl
def G8u(e:Int)(w:World):(ReflectliteValue.unpack (.iface 69 (.int .i64 e))).run prog w=.ok (val 69 ⟨w.heap.size,0,none⟩ 130) (w.alloc (.cells #[.int .i64 e] 69)):=by kernel_rfl
end Go.iA.As
namespace Go.iA.As
open Go Go.Proofs Go.RowKit Go.Extern.Stop Go.Stop Go.Extern Tryz
def nr(e f:Int)(w:World):(ReflectliteValue.unpack (.iface 128 (.agg #[.int .i64 e,.int .i64 f]))).run prog w=.ok (val 128 ⟨w.heap.size,0,none⟩ 153) (w.alloc (.cells #[.int .i64 e,.int .i64 f] 128)):=by kernel_rfl
def Ot(E b:Nat)(e f:Int)(Hk:Array Value)(ty:TypeId)(W:World)(L:W.heap[b]?=some (.cells #[.int .i64 e,.int .i64 f] 128))(ht:W.heap[E]?=some (.cells Hk ty (0,0)))(I:Hk.size=2) :(ReflectliteValue.set #[val 128 ⟨E,0,none⟩ 409,val 128 ⟨b,0,none⟩ 153]).run prog W=.ok (.tuple #[]) (W.setRow E #[.int .i64 e,.int .i64 f]):=by rw[rls];simp only[Ha,H3r,G6s,Result.andThen];have O:=run_loadVar_row (P:=prog) W b 128 128 #[.int .i64 e,.int .i64 f] (0,0) _ L underlying128 rfl (by kernel_rfl);have J:=run_storeVar_row (P:=prog) W E ty 128 Hk #[.int .i64 e,.int .i64 f] ht (by kernel_rfl) I (by simp[Value.oneCell']);simp[ReflectliteValue.flagAddr,O,Result.andThen,G1r,J]
def F8c(E b:Nat)(e:Int)(Hk:Array Value)(ty:TypeId)(W:World)(O:W.heap[b]?=some (.cells #[.int .i64 e] 69))(ht:W.heap[E]?=some (.cells Hk ty (0,0)))(J:Hk.size=1) :(ReflectliteValue.set #[val 69 ⟨E,0,none⟩ 386,val 69 ⟨b,0,none⟩ 130]).run prog W=.ok (.tuple #[]) (W.setRow E #[.int .i64 e]):=by
 rw[rls];simp only[Ha,xw,G8c,Result.andThen];have I:W.cell? ⟨b,0,none⟩=some (.int .i64 e):=by simp[World.cell?,O]
 have L:(storeVar 69 ⟨E,0,none⟩ (.int .i64 e)).run prog W=.ok () (W.setRow E #[.int .i64 e]):=by have:=run_storeVar_row (P:=prog) W E ty 69 Hk #[.int .i64 e] ht (by kernel_rfl) J (by simp[Value.oneCell']);exact this
 simp[ReflectliteValue.flagAddr,loadVar,isAgg,underlying,underlying69,I,Result.andThen,H5w,L]
def wA(P:TypeId)(t:Nat)(w:World):World:=w.alloc (.cells #[.pointer (some ⟨t,0,none⟩)] P)
def wB(P:TypeId)(t:Nat)(w:World):World:=(wA P t w).alloc (.cells (kO P ⟨w.heap.size,0,none⟩ 150) 212)
def wC(P:TypeId)(t:Nat)(w:World):World:=(wB P t w).alloc (.cells (kO P ⟨w.heap.size,0,none⟩ 150) 212)
def H6a(P:TypeId)(t:Nat)(w:World):(wA P t w).heap.size=w.heap.size+1:=by simp[wA]
def H7i(P:TypeId)(t:Nat)(w:World):(wB P t w).heap.size=w.heap.size+1+1:=by simp[wB,wA]
def ED(P:TypeId)(t:Nat)(w:World):(wC P t w).heap.size=w.heap.size+1+1+1:=by simp[wC,wB,wA]
def OQ(P:TypeId)(t:Nat)(w:World)(b:Nat)(E:b<w.heap.size):(wC P t w).heap[b]?=w.heap[b]?:=by unfold wC;rw[RowKit.Below.heap_alloc _ _ b (by rw[H7i];omega)];unfold wB;rw[RowKit.Below.heap_alloc _ _ b (by rw[H6a];omega)];unfold wA;rw[RowKit.Below.heap_alloc _ _ b E]
set_option maxHeartbeats 4000000 in
def G9n(e f:Int)(t:Nat)(Hk:Array Value)(ty:TypeId)(w:World)(J:w.cell? ⟨0,0,none⟩=some (Lv 40))(E:0<w.heap.size)(ht:w.heap[t]?=some (.cells Hk ty (0,0)))(L:Hk.size=2) :Calls prog 77 #[.iface 128 (.agg #[.int .i64 e,.int .i64 f]),.iface 135 (.pointer (some ⟨t,0,none⟩))] w λev w'=>ev=.returned (.bool true)/\w'=((wC 135 t w).alloc (.cells #[.int .i64 e,.int .i64 f] 128)).setRow t #[.int .i64 e,.int .i64 f]:=by
 have h0:=@run_callFunc_extern prog 156 _ (λargs=>ReflectliteValue.unpack (args.getD 0 (.tuple #[]))) func156 (by kernel_rfl) (by kernel_rfl) (by kernel_rfl) (by kernel_rfl)
 have h1:=@run_callFunc_extern prog 157 _ (ReflectliteValue.methodAny (ReflectliteValue.valueError "reflectlite.Value.Type" 0) (λt _ _ _=>ReflectliteType.toType t)) func157 (by kernel_rfl) (by kernel_rfl) (by kernel_rfl) (by kernel_rfl)
 have V:=@run_callFunc_extern prog 158 _ (ReflectliteValue.method (ReflectliteValue.valueError "reflectlite.Value.IsNil" 0) ReflectliteValue.isNil) func158 (by kernel_rfl) (by kernel_rfl) (by kernel_rfl) (by kernel_rfl)
 have h3:=@run_callFunc_extern prog 374 _ (ReflectliteType.abiMethod λt=>do pure (.int .u8 (<-Rtype.kind t))) func374 (by kernel_rfl) (by kernel_rfl) (by kernel_rfl) (by kernel_rfl);have h4:=@run_callFunc_extern prog 386 _ (ReflectliteType.method ReflectliteType.elem) func386 (by kernel_rfl) (by kernel_rfl) (by kernel_rfl) (by kernel_rfl)
 have h5:=@run_callFunc_extern prog 387 _ (ReflectliteType.relation "Implements" ReflectliteType.implements_) func387 (by kernel_rfl) (by kernel_rfl) (by kernel_rfl) (by kernel_rfl)
 have h6:=@run_callFunc_extern prog 237 _ ReflectliteType.typeOf func237 (by kernel_rfl) (by kernel_rfl) (by kernel_rfl) (by kernel_rfl)
 have h7:=@run_callFunc_extern prog 384 _ (ReflectliteType.relation "AssignableTo" ReflectliteType.assignableTo) func384 (by kernel_rfl) (by kernel_rfl) (by kernel_rfl) (by kernel_rfl)
 have h8:=@run_callFunc_extern prog 238 _ (ReflectliteValue.method (ReflectliteValue.valueError "reflectlite.Value.Elem" 0) ReflectliteValue.elem) func238 (by kernel_rfl) (by kernel_rfl) (by kernel_rfl) (by kernel_rfl)
 have U:=@run_callFunc_extern prog 239 _ ReflectliteValue.set func239 (by kernel_rfl) (by kernel_rfl) (by kernel_rfl) (by kernel_rfl);have f0:=H4u;have f1:=type135;have mK:=Cl;have mE:=vj;have mI:=ZW;have W:=VW;have k1:=F8u;have k2:=cu;have e1:=uu;have i1:=G8r;have Z:=dj;have aA:=H4q;have v1:=nr;have I:t<w.heap.size:=(U6.1 ht).1;have n8:=F4q ⟨w.heap.size,0,none⟩ ⟨t,0,none⟩ (wB 135 t w) (by simp[wB,wA]);have O:(wB 135 t w).cell? ⟨0,0,none⟩=some (Lv 40):=by unfold wB wA;rw[World.cell?_alloc_lt _ _ ⟨0,0,none⟩ (by simp <;> omega),World.cell?_alloc_lt _ _ ⟨0,0,none⟩ E];exact J
 have el:=F7t ⟨w.heap.size,0,none⟩ ⟨t,0,none⟩ (wC 135 t w) (by unfold wC wB wA;rw[World.cell?_alloc_lt _ _ ⟨w.heap.size,0,none⟩ (by simp;omega)];simp);have st:=Ot t (w.heap.size+1+1+1) e f Hk ty ((wC 135 t w).alloc (.cells #[.int .i64 e,.int .i64 f] 128)) (by
   rw[<-ED 135 t w];simp[-World.alloc_eq,World.alloc])
  (by rw[RowKit.Below.heap_alloc _ _ t (by rw[ED];omega),OQ _ _ _ _ I];exact ht) L
 unfold wC wB wA at*;simp only[Fe,Lv,val,kO]at*
 go_enter func77,ntmps77
 go_wp2
 refine wp_loop_rounds 1 ?_;rw[rounds_succ]
 go_wp2
 go_ret
 exact⟨rfl,rfl⟩
def H6b(v:Value)(E:TypeId)(w:World):(Instr.typeAssert (.iface 128 v) E 278 true).run prog w=.ok (.tuple #[.nilIface,.bool false]) w:=run_typeAssert_lacksB underlying278 (by kernel_rfl) (by kernel_rfl) v E w
def G5t(v:Value)(E:TypeId)(w:World):(Instr.typeAssert (.iface 128 v) E 281 true).run prog w=.ok (.tuple #[.iface 128 v,.bool true]) w:=run_typeAssert_hasB underlying281 (by kernel_rfl) v E w
def G4j(w:World)(o:Obj):(w.alloc o).heap[w.heap.size]?=some o:=by simp[-World.alloc_eq,World.alloc]
def G2k(w:World):(ReflectliteType.relation "AssignableTo" ReflectliteType.assignableTo #[Fe 128,Lv 69]).run prog w=.ok (.bool false) w:=by kernel_rfl
def H8k(e f:Value)(w:World):(Go.method 513 128 (.agg #[e,f]) "Unwrap").run prog w=.ok (379,.agg #[e,f]) w:=by kernel_rfl
def H5p(e f:Int)(W:World):Calls prog 379 #[.agg #[.int .i64 e,.int .i64 f]] W λev w'=>ev=.returned (.iface 69 (.int .i64 e))/\w'=W.alloc (.cells #[.int .i64 e,.int .i64 f] 128):=by
 go_enter func379,ntmps379
 go_wp2
 go_ret
 exact⟨rfl,rfl⟩
set_option maxHeartbeats 4000000 in
def F9w(e f:Int)(t:Nat)(Hk:Array Value)(ty:TypeId)(w:World)(O:w.cell? ⟨0,0,none⟩=some (Lv 40))(I:0<w.heap.size)(ht:w.heap[t]?=some (.cells Hk ty (0,0)))(U:Hk.size=1) :Calls prog 77 #[.iface 128 (.agg #[.int .i64 e,.int .i64 f]),.iface 134 (.pointer (some ⟨t,0,none⟩))] w λev w'=>ev=.returned (.bool true)/\w'=(((wC 134 t w).alloc (.cells #[.int .i64 e,.int .i64 f] 128)).alloc (.cells #[.int .i64 e] 69)).setRow t #[.int .i64 e]:=by
 have h0:=@run_callFunc_extern prog 156 _ (λargs=>ReflectliteValue.unpack (args.getD 0 (.tuple #[]))) func156 (by kernel_rfl) (by kernel_rfl) (by kernel_rfl) (by kernel_rfl)
 have h1:=@run_callFunc_extern prog 157 _ (ReflectliteValue.methodAny (ReflectliteValue.valueError "reflectlite.Value.Type" 0) (λt _ _ _=>ReflectliteType.toType t)) func157 (by kernel_rfl) (by kernel_rfl) (by kernel_rfl) (by kernel_rfl)
 have h2:=@run_callFunc_extern prog 158 _ (ReflectliteValue.method (ReflectliteValue.valueError "reflectlite.Value.IsNil" 0) ReflectliteValue.isNil) func158 (by kernel_rfl) (by kernel_rfl) (by kernel_rfl) (by kernel_rfl)
 have h3:=@run_callFunc_extern prog 374 _ (ReflectliteType.abiMethod λt=>do pure (.int .u8 (<-Rtype.kind t))) func374 (by kernel_rfl) (by kernel_rfl) (by kernel_rfl) (by kernel_rfl);have h4:=@run_callFunc_extern prog 386 _ (ReflectliteType.method ReflectliteType.elem) func386 (by kernel_rfl) (by kernel_rfl) (by kernel_rfl) (by kernel_rfl)
 have h5:=@run_callFunc_extern prog 387 _ (ReflectliteType.relation "Implements" ReflectliteType.implements_) func387 (by kernel_rfl) (by kernel_rfl) (by kernel_rfl) (by kernel_rfl)
 have h6:=@run_callFunc_extern prog 237 _ ReflectliteType.typeOf func237 (by kernel_rfl) (by kernel_rfl) (by kernel_rfl) (by kernel_rfl)
 have h7:=@run_callFunc_extern prog 384 _ (ReflectliteType.relation "AssignableTo" ReflectliteType.assignableTo) func384 (by kernel_rfl) (by kernel_rfl) (by kernel_rfl) (by kernel_rfl)
 have h8:=@run_callFunc_extern prog 238 _ (ReflectliteValue.method (ReflectliteValue.valueError "reflectlite.Value.Elem" 0) ReflectliteValue.elem) func238 (by kernel_rfl) (by kernel_rfl) (by kernel_rfl) (by kernel_rfl)
 have h9:=@run_callFunc_extern prog 239 _ ReflectliteValue.set func239 (by kernel_rfl) (by kernel_rfl) (by kernel_rfl) (by kernel_rfl);have f0:=G5s;have f1:=type134;have mK:=Cl;have mE:=vj;have mI:=ZW;have mA:=VW;have k1:=H7q;have k2:=F8a;have e1:=G1y;have i1:=wz;have tO:=dj;have Z:=dw;have aA:=H5k;have aN:=G2k;have mU:=H8k;have tA:=H6b;have tU:=G5t;have v1:=G8u;have L:t<w.heap.size:=(U6.1 ht).1;have n8:=G5r ⟨w.heap.size,0,none⟩ ⟨t,0,none⟩ (wB 134 t w) (by simp[wB,wA]);have V:(wB 134 t w).cell? ⟨0,0,none⟩=some (Lv 40):=by unfold wB wA;rw[World.cell?_alloc_lt _ _ ⟨0,0,none⟩ (by simp <;> omega),World.cell?_alloc_lt _ _ ⟨0,0,none⟩ I];exact O
 have E:(wC 134 t w).cell? ⟨w.heap.size,0,none⟩=some (.pointer (some ⟨t,0,none⟩)):=by unfold wC wB wA;rw[World.cell?_alloc_lt _ _ ⟨w.heap.size,0,none⟩ (by simp;omega)];simp
 have el:=H4n ⟨w.heap.size,0,none⟩ ⟨t,0,none⟩ ((wC 134 t w).alloc (.cells #[.int .i64 e,.int .i64 f] 128)) (by rw[World.cell?_alloc_lt _ _ ⟨w.heap.size,0,none⟩ (by rw[ED];show w.heap.size<_;omega)];exact E);have st:=F8c t (w.heap.size+1+1+1+1) e Hk ty (((wC 134 t w).alloc (.cells #[.int .i64 e,.int .i64 f] 128)).alloc (.cells #[.int .i64 e] 69)) (by
   have hs:((wC 134 t w).alloc (.cells #[.int .i64 e,.int .i64 f] 128)).heap.size=w.heap.size+1+1+1+1:=by simp[-World.alloc_eq,World.alloc,ED]
   rw[<-hs];exact G4j _ _)
  (by rw[RowKit.Below.heap_alloc _ _ t (by simp[-World.alloc_eq,World.alloc,ED];omega),RowKit.Below.heap_alloc _ _ t (by rw[ED];omega),OQ _ _ _ _ L];exact ht) U
 have J:=λW=>H5p e f W;unfold wC wB wA at*;simp only[Fe,Lv,val,kO]at*
 go_enter func77,ntmps77
 go_wp2
 refine wp_loop_rounds 2 ?_;rw[rounds_succ]
 go_wp2_with (go_at_call 379;refine(J _).mono ?_;rintro e w' ⟨rfl,rfl⟩)
 rw[rounds_succ]
 go_wp2
 go_ret
 exact⟨rfl,rfl⟩
end Go.iA.As
namespace Go.iA
open Go Go.Proofs Go.RowKit Go.Lib Go.Sort Tryz
abbrev sv(a:A3):Value:=.string ⟨a.toArray⟩
def kc(a:A3)(W:World):Calls prog 254 #[sv a] W λe w'=>e=.returned (.bool false)/\w'=W:=by
 go_enter func254,ntmps254
 go_wp2
 go_ret
 exact⟨rfl,rfl⟩
def tz(a b:A3)(W:World)(t:TypeId):(binOp .gtr t (sv a) (sv b)).run prog W=.ok (.bool (Op.bytesLess b a)) W:=by
 have:=cS a b;have e:(!Op.bytesLess a b && !a ==b)=Op.bytesLess b a:=by rw[<-Bool.not_or,this,Bool.not_not]
 simp[binOp,Op.stringOp,e]
def G2g(a b:A3)(W:World):Calls prog 168 #[sv a,sv b] W λe w'=>e=.returned (.int .i64 (Bw a b))/\w'=W:=by
 obtain⟨U,O,L⟩:=JT a b;have J:=λW=>kc a W;have I:=λW=>kc b W;generalize Bw a b=c at*
 go_enter func168,ntmps168
 go_wp2_with (first|rw[tz]| (go_at_call 254;first| (refine(J _).mono ?_;rintro e w' ⟨rfl,E⟩;rw[E])| (refine(I _).mono ?_;rintro e w' ⟨rfl,E⟩;rw[E])))
 all_goals (go_ret;refine⟨?_,rfl⟩;rcases L with h|h|h <;> simp_all)
def F5r(a b:A3)(W:World):Calls prog 83 #[sv a,sv b] W λe w'=>e=.returned (.int .i64 (Bw a b))/\w'=W:=by
 have E:=G2g a b W;generalize Bw a b=c at*
 go_enter func83,ntmps83
 go_wp2_with (go_at_call 168;refine E.mono ?_;rintro e w' ⟨rfl,I⟩;rw[I])
 go_ret
 exact⟨rfl,rfl⟩
def zr(a b:A3)(a1 a2 J a4 Z a6 U b2 V L I b6:Value)(W:World):Calls prog 82 #[.agg #[sv a,a1,a2,J,a4,Z,a6],.agg #[sv b,U,b2,V,L,I,b6]] W λe w'=>e=.returned (.int .i64 (Bw a b))/\∃q E,w'=grow (W.drewN q) E:=by
 have O:=λW=>F5r a b W;generalize Bw a b=c at*
 go_enter func82,ntmps82
 go_wp2_with (go_at_call 83;refine(O _).mono ?_;rintro e w' ⟨rfl,rfl⟩)
 go_ret
 exact⟨rfl,0,_,by rw[alloc_eq_grow,alloc_eq_grow,grow_grow];rfl⟩
open Go Go.Proofs Go.Sort Tryz
def Zr:∀a b:A3,Bw b a = - Bw a b
 |[],[]=>rfl
 |[],_::_=>rfl
 |_::_,[]=>rfl
 |x::xs,y::ys=>by
  have E:=Zr xs ys;simp only[Bw,JG];rcases qR x.toNat y.toNat with h|h|h
  .have:¬y.toNat<x.toNat:=by omega
   simp[h,this]
  simp[h,E]
  .have:¬x.toNat<y.toNat:=by omega
   simp[h,this]
def RM:∀a b c:A3,Bw a b<0->Bw b c<0->Bw a c<0
 |[],[],_,h,_=>by simp[Bw]at h
 |[],_::_,[],_,h=>by simp[Bw]at h
 |[],_::_,_::_,_,_=>by simp[Bw]
 |_::_,[],_,h,_=>by simp[Bw]at h
 |_::_,_::_,[],_,h=>by simp[Bw]at h
 |x::xs,y::ys,z::V,J,E=>by have U:=RM xs ys V;simp only[Bw,JG]at*;by_cases W:x.toNat<y.toNat;by_cases L:y.toNat<z.toNat;rw[A7 (by omega)];decide;rw[A5 L]at E;by_cases I:z.toNat<y.toNat;rw[A7 I]at E;omega;rw[A7 (by omega)];decide;rw[A5 W]at J;by_cases O:y.toNat<x.toNat;rw[A7 O]at J;omega;rw[A5 O]at J;by_cases L:y.toNat<z.toNat;rw[A7 (by omega)];decide;rw[A5 L]at E;by_cases I:z.toNat<y.toNat;rw[A7 I]at E;omega;rw[A5 I]at E;rw[A5 (by omega),A5 (by omega)];exact U J E
def mT(a b c:A3)(L:Bw a b<=0)(J:Bw b c<=0):Bw a c<=0:=by by_cases E:Bw a b=0;rw[To]at E;rw[E];exact J;by_cases I:Bw b c=0;rw[To]at I;rw[<-I];exact L;have:=RM a b c (by omega) (by omega);omega
def px{α:Type}(nm:α->A3):SWO (ltOf λx y:α=>Bw (nm x) (nm y)) where
 irrefl x:=by simp[ltOf,fT]
 trans x y z h1 h2:=by simp only[ltOf,Di]at*;exact RM _ _ _ h1 h2
 ntrans x y z h1 h2:=by simp only[ltOf,lC]at*;have J:=Zr (nm x) (nm y);have I:=Zr (nm y) (nm z);have E:=Zr (nm x) (nm z);have:=mT (nm z) (nm y) (nm x) (by omega) (by omega);omega
def Tq(l:List A4):List A4:=l.mergeSort λa b=>decide (Bw a.name b.name<=0)
def Zv(l:List A4):(Tq l).Perm l:=List.mergeSort_perm _ _
def G8b(l:List A4):(Tq l).Pairwise λa b=>Bw a.name b.name<=0:=by refine(List.pairwise_mergeSort (le:=λa b:A4=>decide (Bw a.name b.name<=0)) ?_ ?_ l).imp (by simp);intro a b c E I;simp only[Di]at*;exact mT _ _ _ E I;intro a b;have:=Zr a.name b.name;simp only[U7,Di];omega
def kX{l I:List A4}(hn:(l.map (·.name)).Nodup)(hp:I.Perm l)(hs:I.Pairwise λa b=>Bw a.name b.name<=0):I=Tq l:=by
 refine List.Perm.eq_of_pairwise (le:=λa b:A4=>Bw a.name b.name<=0) ?_ hs (G8b l) (hp.trans (Zv l).symm);intro a b Z hb U V;have:=Zr a.name b.name;have he:a.name=b.name:=To.1 (by omega);have E:a∈l:=hp.mem_iff.1 Z;have L:b∈l:=(Zv l).mem_iff.1 hb;obtain⟨i,W⟩:=Lx E;obtain⟨j,J⟩:=Lx L;have U:(l.map (·.name))[i]?=some a.name:=by simp[W]
 have V:(l.map (·.name))[j]?=some a.name:=by simp[J,he]
 have O:i<(l.map (·.name)).length:=(Az.1 U).1;have:=(List.getElem?_inj O hn).1 (U.trans V.symm);subst this;rw[W]at J;simpa using J
def iS{sl:SL}{bx:Ac}{dst:Option Nat}{x:Operand}{Dr:List TypeId}(k:Nat)(l:List A4)(hx:Aq sl x=.acc k)(hb:A9 bx k=some (.rows 7 (B4 l)))(hn:(l.map (·.name)).Nodup)(aq:l.length<=sm) :QK prog sl bx dst (.call ⟨.value (.func 81),[x,.func 82].toArray,Dr.toArray⟩) (.tuple []) ((k,.rows 7 (B4 (Tq l)))::Cu k bx) []:=by
 intro o ho _ C S w β a hi ha;have hE:Enters prog 81:=(Enters.of func81 rfl (by decide));have ak:=ha x (mC ho);rw[hx]at ak;have a8:=Ho hb;obtain⟨q1,q2,q3,q4,q5,q6,q7⟩:=hi.box k _ a8;generalize hv:a.eval x=v at ak;cases ak;have O:(#[x,.func 82].map a.eval)++(#[]:Array Value) = #[.slice ((β k).base.map λb=>⟨b,(β k).off*(β k).sz,none⟩) (β k).len (β k).cap,.func (.func 82) #[] #[]]:=by apply L5;rw[Array.toList_append,kN];show[a.eval x,Value.func (.func 82) #[] #[]]++[]=_;rw[hv];rfl
 have b8:a.eval (.func 81)=.func (.func 81) #[] #[]:=rfl;refine Ja ?_;unfold Oper.wp;rw[tD hE ho b8,gC];have a7:l.length=(β k).len:=by rw[<-q2];simp[B4]
 have ad:([x,.func 82].toArray.map a.eval)++(#[]:Array Value) = #[.slice ((β k).base.map λb=>⟨b,(β k).off*(β k).sz,none⟩) (β k).len (β k).cap,.func (.func 82) #[] #[]]:=O;rw[ad];generalize J:(β k).base=ob at q7;cases ob with
 |none =>simp only at q7;have bg:l=[]:=XC (by omega);subst bg;rw[show(β k).len=0 by omega];refine(AnyF.slices_SortFunc_none Hz _ _ _ w).mono ?_;rintro e w' ⟨rfl,rfl⟩;refine⟨_,S,β,rfl,hi.sub λj c W=>?_,Cg.refl S _,.tuple [] [] rfl (by simp),λ_ _=>rfl⟩;rcases Ay.1 W with h|h;rw[h,show Tq []=[] by simp[Tq]];exact a8;exact(Ev.1 h).2
 |some b =>
  simp only at q7;obtain⟨ty,vs,hh,av,aw⟩:=q7;obtain⟨n,bf⟩:∃n,n=l.length:=⟨_,rfl⟩
  let nm:Nat->A3:=λi=>((l[i]?).getD default).name
  have ai:∀i,i<n->((β k).off+i)*7+7<=vs.length:=λi h=>by have Z:((β k).off+i+1)*7<=((β k).off+(β k).cap)*7:=Ih _ (by omega);omega
  let enc:Nat->List Value:=λi=>if i<n then(vs.drop (((β k).off+i)*7)).take 7 else[sv (nm i),.int .i64 0,.int .i64 0,.int .i64 0,.int .i64 0,.int .i64 0,.int .i64 0]
  have I:∀i,(enc i).length=7:=λi=>by simp only[enc];split;rename_i h;have:=ai i h;rw[Dh,yJ];omega;rfl
  have V:∀i j,i<n->j<7->(enc i)[j]?=vs[((β k).off+i)*7+j]?:=λi j h W=>by simp only[enc,A7 h];rw[uN W,Y0]
  have rowAt:∀i,i<n->∃s,l[i]?=some s/\(B4 l)[i]?=some (Dp s):=λi h=>⟨l[i]'(by omega),Bu _,Dg (Bu _)⟩;have L:∀i j s v,l[i]?=some s->(enc i)[j]?=some v->∃d,(Dp s)[j]?=some d/\C5 S w d v:=λi j s v hs he=>by
   have am:i<n:=by have:=(Az.1 hs).1;omega
   have W:j<7:=by have:=(Az.1 he).1;rw[I]at this;exact this
   rw[V i j am W]at he;have au:j<(Dp s).length:=by rw[show(Dp s).length=7 from rfl];exact W
   exact⟨_,Bu au,aw i j (Dp s) _ v (Dg hs) (Bu au) he⟩
  have aa:∀i,∀v∈enc i,v.oneCell'=true:=λi v hv=>by by_cases h:i<n;obtain⟨s,hs,hr⟩:=rowAt i h;obtain⟨j,W⟩:=Lx hv;obtain⟨d,Z,h2⟩:=L i j s v hs W;exact h2.one (q6 _ (Bs hr) d (Bs Z));simp only[enc,A5 h,Ay,Eh,Eo]at hv;rcases hv with rfl|rfl|rfl|rfl|rfl|rfl|rfl <;> rfl
  have U:∀i,∃a1 a2 a3 a4 a5 a6,enc i=[sv (nm i),a1,a2,a3,a4,a5,a6]:=λi=>by
   by_cases h:i<n
   .obtain⟨s,hs,hr⟩:=rowAt i h;have hl:=I i;have h0:=L i 0 s
    match he:enc i,hl with
    |[v0,a1,a2,a3,a4,a5,a6],_ =>
     obtain⟨d,Z,h2⟩:=h0 v0 hs (by rw[he];rfl);have:d=.str s.name:=by simpa [Dp]using Z.symm
     subst this;have:v0=sv (nm i):=by have bc:=(An.d (β:=β) _ _ h2).Vw.1;rw[bc];simp only[nm,hs,Dx];rfl
     exact⟨a1,a2,a3,a4,a5,a6,by rw[this]⟩
   exact⟨.int .i64 0,.int .i64 0,.int .i64 0,.int .i64 0,.int .i64 0,.int .i64 0,by simp only[enc,A5 h]⟩
  have az:CmpLays prog 82 #[] enc 7 (λx y=>Bw (nm x) (nm y)) b ((β k).off*7) (Array.range n).size w:=λm os dk _ x y=>by obtain⟨a1,a2,a3,a4,a5,a6,Z⟩:=U x;obtain⟨b1,b2,b3,b4,b5,b6,h2⟩:=U y;have:=zr (nm x) (nm y) a1 a2 a3 a4 a5 a6 b1 b2 b3 b4 b5 b6 (sortWorldK enc 7 w b ((β k).off*7) m dk os);rw[Z,h2];exact this
  have hH:HoldsK enc 7 w b ((β k).off*7) (Array.range n):=λj W=>by
   rw[size_flatK,FG]at W;have ae:j / 7<n:=by omega
   have ba:(flatK enc 7 (Array.range n))[j]! =(enc (j / 7))[j % 7]!:=by
    rw[get_flatK _ _ _ _ (by rw[FG];exact W)]
    congr 2
    rw[sJ _ _ (by rw[FG];exact ae),Array.getElem_range]
   have ay:=ai (j / 7) ae;have Tt:((β k).off+j / 7)*7+j % 7=(β k).off*7+j:=by omega
   have ac:(β k).off*7+j<vs.length:=by omega
   have bh:(enc (j / 7))[j % 7]! =vs[(β k).off*7+j]:=by have:=V (j / 7) (j % 7) ae (oE _ (by decide));rw[Tt,Bu ac]at this;rw[List.getElem!_eq_getElem?_getD,this];rfl
   refine⟨?_,?_⟩;simp only[World.cell?,hh,Uj,id,ba,bh];simp[ac];simp[World.frozen?,hh]
  have be:b<w.heap.size:=(hi.Bk k _ a8 b J).2.1;have hS:=hi.Bk k _ a8 b J;rw[q1,<-a7,<-bf];have a':=AnyQ.slices_SortFunc Hz 7 isAgg51 sizeOf51 enc I aa (λx y=>Bw (nm x) (nm y)) (px nm) 82 #[] b ((β k).off*7) (β k).cap (Array.range n) w
   (enters_of func82 (by kernel_rfl) rfl) az hH be (by rw[FG];unfold sm at aq;omega)
  rw[FG]at a';refine a'.mono ?_;rintro e w' ⟨rfl,E,m,os,aj,a0,rfl⟩;obtain⟨p1,_,p3⟩:=aj;rw[FG]at p1;have p4:E.toList.Perm (List.range n):=by rw[show E.extract 0 n=E by rw[<-p1];exact Array.extract_size,show(Array.range n).extract 0 n=Array.range n by have:=Array.extract_size (xs:=Array.range n);rwa [FG]at this,Array.toList_range]at p3;exact p3
  have p5:∀i (h:i<E.size),E[i]<n:=λi h=>wJ.1 (p4.mem_iff.1 (Array.getElem_mem_toList h));have ax:E.toList.map (λi=>(l[i]?).getD default)=Tq l:=by
   refine kX hn ?_ ?_
   .have Z:=p4.map λi=>(l[i]?).getD default;have h2:(List.range n).map (λi=>(l[i]?).getD default)=l:=by refine Kx λi=>?_;rw[Df];by_cases h:i<n;rw[HG h,Em,Bu (by omega),Dx];rw[List.getElem?_eq_none (by simp;omega),List.getElem?_eq_none (by omega)];rfl
    rw[h2]at Z;exact Z
   .rw[List.pairwise_map,LG];intro i j am ap b7;have Z:=a0 i j (Xa _) b7 (by rw[<-p1];simpa using ap);rw[sJ E i (by simpa using am),sJ E j (by simpa using ap)]at Z;simp only[ltOf,lC]at Z;have h2:=Zr (nm E[i]) (nm E[j]);have h3:¬Bw (nm E[j]) (nm E[i])<0:=Z;have h4:Bw (nm E[i]) (nm E[j])<=0:=by omega
    simpa [nm]using h4
  have af:=Zv l;have bi:E.size=(Tq l).length:=by rw[<-ax];simp
  have ar:E4 S (putRowK enc 7 (Sort.ahead w m) b ((β k).off*7) E) β (β k) (.rows 7 (B4 (Tq l))):=by
   refine⟨q1,by simp only[B4,B7,af.length_eq];exact a7,q3,by simp only[B4,B7,af.length_eq];unfold sm lim at*;omega,?_,?_,?_⟩;intro row hr;obtain⟨s,_,rfl⟩:=Ap.1 hr;rfl;intro row hr d hd;obtain⟨s,hs,rfl⟩:=Ap.1 hr;exact q6 _ (Ap.2 ⟨s,af.mem_iff.1 hs,rfl⟩) d hd
   .rw[J];refine⟨ty,(putCells id ((β k).off*7) (flatK enc 7 E) ⟨vs⟩).toList,?_,by simpa [putCells]using av,?_⟩;simp[putRowK,putRow,mapBlock,Sort.ahead,FJ,hh,onCells]
    .intro r j row d v hr hd hv;have bk:r<(Tq l).length:=by have:=(Az.1 hr).1;simpa [B4]using this
     have ag:r<E.size:=by omega
     have ab:row=Dp ((l[E[r]]?).getD default):=by rw[<-ax]at hr;simp only[B4,Df,GJ,Zk ag,Em,B8]at hr;exact hr.symm
     obtain⟨s,hs,_⟩:=rowAt _ (p5 r ag);rw[hs,Dx]at ab;subst ab;have W:j<7:=by have:=(Az.1 hd).1;rwa [show(Dp s).length=7 from rfl]at this
     have ao:(flatK enc 7 E)[r*7+j]! =(enc E[r])[j]!:=by rw[get_flatK _ _ _ _ (by omega),show(r*7+j) / 7=r by omega,show(r*7+j) % 7=j by omega,sJ E r ag]
     have bj:=ai r (by omega);have ay:((β k).off+r)*7+j<vs.length:=by omega
     have b9:(enc E[r])[j]?=some v:=by
      rw[GJ,putCells,Array.getElem?_mapIdx]at hv;have hc:(⟨vs⟩:Array Value)[((β k).off+r)*7+j]?=some vs[((β k).off+r)*7+j]:=by simp[ay]
      rw[hc,Em,A7 ⟨by omega,by rw[size_flatK];omega⟩,show((β k).off+r)*7+j - (β k).off*7=r*7+j by omega,ao]at hv;have b0:j<(enc E[r]).length:=by rw[I];exact W
      rw[Bu b0];simp only[id,B8]at hv;rw[<-hv,sJ (enc E[r]) j b0]
     obtain⟨d2,e1,e2⟩:=L _ j s v hs b9;rw[e1]at hd;simp only[B8]at hd;subst hd;exact e2.ext ⟨λ_ h=>h,λb' a9=>by have ah:b≠b':=λhe=>hS.1 (he ▸ a9);simp[putRowK,putRow,mapBlock,Sort.ahead,FJ,ah]⟩
  obtain⟨g1,g2⟩:=hi.dM (w':=putRowK enc 7 (Sort.ahead w m) b ((β k).off*7) E) (c:=.rows 7 (B4 (Tq l))) a8 J (λb' ah=>by simp[putRowK,putRow,mapBlock,Sort.ahead,FJ,Zy ah]) rfl rfl rfl (by simp[putRowK,putRow,mapBlock,Sort.ahead]) ar
  obtain⟨g3,g4⟩:=g1.grow (S':=S) (w':=Sort.grow (putRowK enc 7 (Sort.ahead w m) b ((β k).off*7) E) os) (λ_ h=>h) (λ_ h=>.inl h) (λb' a9=>by have:=g1.C9 b' a9;simp only[Sort.grow,Array.size_append];omega) (λb' a9=>by simp only[Sort.grow];exact IW a9) rfl rfl rfl (by simp[Sort.grow])
  exact⟨_,S,β,rfl,g3,g2.trans g4,.tuple [] [] rfl (by simp),λ_ _=>rfl⟩
open Go Go.Proofs Tryz
def UX(s:A4)(vars:List A3)(args:List Ty):(s.canon.subst vars args).name=s.name:=rfl
def gX(vars:List A3)(args:List Ty)(l:List A4):∀j,j<=l.length->((Im vars args l j).map (·.name)).Nodup/\∀n,n∈(Im vars args l j).map (·.name)->∃y,y∈l.take j/\y.name=n
 |0,_=>by simp[Im]
 |j+1,h=>by
  obtain⟨U,J⟩:=gX vars args l j (by omega);have ht:l.take (j+1)=l.take j++[l[j]]:=by rw[yW,Bu (by omega)];rfl
  rw[zV (by omega) ht,ht];split;rename_i O;simp only[Qt,Di]at O;rw[Gy,CJ];refine⟨⟨U,by simp,?_⟩,?_⟩;rintro a V b L rfl;simp only[Cj,G5,Ay,Eh,Eo]at L;obtain⟨y,I,E⟩:=J a V;exact O y I (E.trans L);intro n hm;rcases Bj.1 hm with hm|hm;obtain⟨y,I,E⟩:=J n hm;exact⟨y,Bj.2 (.inl I),E⟩;simp only[Cj,G5,Ay,Eh,Eo]at hm;exact⟨l[j],Bj.2 (.inr (by simp)),hm.symm⟩;rw[Fv];exact⟨U,λn hm=>by obtain⟨y,I,E⟩:=J n hm;exact⟨y,Bj.2 (.inl I),E⟩⟩
def DO(p:Prog)(x:Ty):∀j,j<=p.decls.length->((Hf p x j).map (·.name)).Nodup/\∀n,n∈(Hf p x j).map (·.name)->∃i,i<j/\Ld p x n=(i:Nat)
 |0,_=>by simp[Hf]
 |j+1,h=>by
  obtain⟨U,I⟩:=DO p x j (by omega);have ht:p.decls.take (j+1)=p.decls.take j++[p.decls[j]]:=by rw[yW,Bu (by omega)];rfl
  rw[RV (by omega) ht];split;rename_i J;simp only[Jm,Bh,Di]at J;rw[Gy,CJ];refine⟨⟨U,by simp,?_⟩,?_⟩;rintro a V b O rfl;simp only[Cj,G5,Ay,Eh,Eo]at O;obtain⟨i,L,E⟩:=I a V;rw[O,UX,J.2]at E;omega;intro n hm;rcases Bj.1 hm with hm|hm;obtain⟨i,L,E⟩:=I n hm;exact⟨i,by omega,E⟩;simp only[Cj,G5,Ay,Eh,Eo]at hm;exact⟨j,by omega,by rw[hm,UX];exact J.2⟩;rw[Fv];exact⟨U,λn hm=>by obtain⟨i,L,E⟩:=I n hm;exact⟨i,by omega,E⟩⟩
def D7(p:Prog)(env:List Aj)(x:Ty):List A4:=if B9 p ((D3 env x).getD x) 2=true then Hj p ((D3 env x).getD x)else if(D3 env x).isSome=true then[]else Hf p ((D3 env x).getD x) p.decls.length
def C3(p:Prog)(env:List Aj)(x:Ty):List A4:=Tq (D7 p env x)
def XP(p:Prog)(x:Ty):((Hj p x).map (·.name)).Nodup:=by unfold Hj;split;exact(gX _ _ _ _ (Bv _)).1;simp
def oQ(p:Prog)(h:p.Sm)(x:Ty):(Hj p x).length<=sm:=by unfold Hj;split;rename_i E;obtain⟨d,hd,_⟩:=La (by decide) E;rw[hd,Dx];exact Cy (qL _ _ _ _) (h.decls.2 d (P3 hd)).sigs.1;simp
def rW{env:List Aj}{x y:Ty}(I:∀f,f∈env->f.Sm)(h:D3 env x=some y):y.Sm:=by unfold D3 at h;split at h;simp at h;rw[Jn]at h;obtain⟨f,E,rfl⟩:=h;exact(I f (Bs E)).bound
abbrev N0:=[0,1,2,5,6,7,8,9,10,17,22,30,33]
def cQ(p:Prog)(h:p.Sm)(env:List Aj)(a0:env.length<=sm)(he:∀f,f∈env->f.Sm)(x:Ty)(hx:x.Sm):Ab prog 31 [.A8 (D4 p) 0,.d (.slice (Ai env)),Ba x] (.d (.slice (B4 (C3 p env x)))):=by
 have W:=zP env x a0 he;unfold C3 D7;have a1:=h.decls.1;have a3:∀y,D3 env x=some y->y.Sm:=λy=>rW he;generalize D3 env x=o at*;cases o with
 |some y =>
  have hy:=a3 y rfl;simp only[qD]at W;simp only[Dx,tR,Av];have I:=tS p h y hy;have J:=XP p y;have E:=oQ p h y;have Z:B9 p y 2=false->Hj p y=[]:=λhf=>by unfold Hj;rw[A5 (by rw[hf];decide)]
  rw[show(if B9 p y 2=true then Hj p y else[])=Hj p y by cases hf:B9 p y 2 with|false=>rw[A5 (by decide),Z hf]|true=>rw[A7 rfl]];generalize B9 p y 2=bb at*;refine cB func31 ?_;refine sR N0 ?_;refine sC W N0 ?_;refine kR N0 λL u1=>?_;refine eA rfl ?_;(refine lV N0 λK z=>?_;apply z;try simp only[Aa,]);apply u1;refine jA N0 [22] (by decide +kernel) λK z=>?_;refine ev ?_;refine⟨_,_,_,_,_,rfl,I,?_⟩;(try refine ev ?_);apply z
  refine sK λL u1=>?_;have O:∀sl bx,Ae sl 9=.acc 22->A9 bx 22=some (.rows 7 (B4 (Hj p y)))->L sl bx:=λsl bx g1 g2=>by
   refine u1 _ _<|A0.ww (sl':=[(9,.acc 22)]) (bx':=[(22,.rows 7 (B4 (Hj p y)))]) (by simp[sle,B0,g1]) (by simp[ble,g2]) ?_
   refine jA N0 [800035] (by decide +kernel) λK z=>?_;refine ev ?_;refine⟨_,_,_,iS 22 (Hj p y) rfl rfl J E,?_⟩;(try refine ev ?_);apply z;refine sR N0 ?_;exact aR
  cases bb;refine sR N0 ?_;refine dA rfl (cA (O _ _ rfl rfl));refine sR N0 ?_;refine dA rfl (cA (O _ _ rfl rfl))
 |none =>simp only[jC,Uj,A5 (show ¬(false=true) by decide)];simp only[qD]at W;have I:=tS p h x hx;have a2:=H0d p h x hx;have J:=XP p x;have E:=oQ p h x;have U:=(DO p x p.decls.length (Bv _)).1;have V:=Cy (WG p x p.decls.length) a1;generalize B9 p x 2=bb at*;refine cB func31 ?_;refine sR N0 ?_;refine sC W N0 ?_;refine kR N0 λL u1=>?_;refine dA rfl (cA (u1 _ _ ?_));refine jA N0 [22] (by decide +kernel) λK z=>?_;refine ev ?_;refine⟨_,_,_,_,_,rfl,I,?_⟩;(try refine ev ?_);apply z;refine sK λL u1=>?_;cases bb;refine sR N0 ?_;refine eA rfl ?_;(refine xA N0 [33] (by decide +kernel) λK z=>?_;refine ev ?_;refine⟨_,_,_,_,_,rfl,a2,?_⟩;(try refine ev ?_);apply z;try simp only[Aa,]);apply u1;rw[A5 (by decide)];refine jA N0 [800035] (by decide +kernel) λK z=>?_;refine ev ?_;refine⟨_,_,_,iS 33 (Hf p x p.decls.length) rfl rfl U V,?_⟩;(try refine ev ?_);apply z;refine sR N0 ?_;exact aR;refine sR N0 ?_;refine dA rfl (cA (u1 _ _ ?_));rw[A7 rfl];refine jA N0 [800035] (by decide +kernel) λK z=>?_;refine ev ?_;refine⟨_,_,_,iS 22 (Hj p x) rfl rfl J E,?_⟩;(try refine ev ?_);apply z;refine sR N0 ?_;exact aR
def cH(m:List A4)(i j:Nat):Prop:=∀(a b:Nat)(s t:A4),a<b->b<=i->b≠j->m[a]?=some s->m[b]?=some t->Bw s.name t.name<=0
def UG(m:List A4)(j:Nat)(s t:A4):List A4:=(m.set j s).set (j - 1) t
def eh{m:List A4}{j:Nat}{s t:A4}(L:0<j)(hs:m[j - 1]?=some s)(ht:m[j]?=some t)(a:Nat) :(UG m j s t)[a]?=if a=j - 1 then some t else if a=j then some s else m[a]?:=by have O:=(Az.1 hs).1;have J:=(Az.1 ht).1;unfold UG;rw[BJ,BJ];by_cases E:a=j - 1;subst E;simp;omega;by_cases I:a=j;subst I;simp[E,Zy E,J];simp[E,I,Zy E,Zy I]
def H2j{m:List A4}{j:Nat}{s t:A4}(J:0<j)(hs:m[j - 1]?=some s)(ht:m[j]?=some t):(UG m j s t).Perm m:=by
 have V:=(Az.1 hs);have L:=(Az.1 ht);obtain⟨U,rfl⟩:=V;obtain⟨W,rfl⟩:=L;have E:m=m.take (j - 1)++m[j - 1]::m[j]::m.drop (j+1):=by
  conv=>lhs;rw[<-Ue (j - 1) m]
  rw[H7 U]
  congr 2
  have:j - 1+1=j:=by omega
  rw[this,H7 W]
 have O:UG m j m[j - 1] m[j]=m.take (j - 1)++m[j]::m[j - 1]::m.drop (j+1):=by
  refine Kx λa=>?_;rw[eh J hs ht];have I:(m.take (j - 1)).length=j - 1:=by rw[Dh];omega
  by_cases Z:a<j - 1;rw[A5 (by omega),A5 (by omega),Mm (by omega),uN Z]
  .rw[Lq (by omega),I];obtain⟨c,rfl⟩:∃c,a=j - 1+c:=⟨a - (j - 1),by omega⟩;rw[show j - 1+c - (j - 1)=c by omega]
   match c with
   |0=>simp
   |1=>rw[A5 (by omega),A7 (by omega)];simp
   |c+2 =>
    rw[A5 (by omega),A5 (by omega)];simp only[WC,Y0]
    congr 1;omega
 rw[O]
 conv=>rhs;rw[E]
 exact List.Perm.append_left _ (List.Perm.swap ..)
def cH.step{m:List A4}{i j:Nat}{s t:A4}(h:cH m i j)(Z:0<j)(a0:j<=i)(hs:m[j - 1]?=some s)(ht:m[j]?=some t)(a3:Bw t.name s.name<0):cH (UG m j s t) i (j - 1):=by intro a b u v O J U E I;rw[eh Z hs ht]at E I;rw[A5 U]at I;by_cases V:b=j;subst V;simp only[Av,B8]at I;subst I;by_cases L:a=b - 1;rw[A7 L]at E;simp only[B8]at E;subst E;omega;rw[A5 L,A5 (by omega)]at E;exact h a (b - 1) u s (by omega) (by omega) (by omega) E hs;rw[A5 V]at I;by_cases L:a=j - 1;rw[A7 L]at E;simp only[B8]at E;subst E;exact h j b t v (by omega) J (by omega) ht I;rw[A5 L]at E;by_cases W:a=j;rw[A7 W]at E;simp only[B8]at E;subst E;exact h (j - 1) b s v (by omega) J (by omega) hs I;rw[A5 W]at E;exact h a b u v O J V E I
def qF(m:List A4)(i:Nat):Prop:=∀(a b:Nat)(s t:A4),a<b->b<i->m[a]?=some s->m[b]?=some t->Bw s.name t.name<=0
def qF.start{m:List A4}{i:Nat}(h:qF m i):cH m i i:=λa b s t E J I hs ht=>h a b s t E (by omega) hs ht
def cH.done{m:List A4}{i j:Nat}(h:cH m i j)(hd:j=0\/∃s t,m[j - 1]?=some s/\m[j]?=some t/\Bw s.name t.name<=0):qF m (i+1):=by intro a b s t I U hs ht;by_cases E:b=j;subst E;rcases hd with W|⟨u,v,L,O,J⟩;omega;rw[O]at ht;simp only[B8]at ht;subst ht;by_cases V:a=b - 1;subst V;rw[L]at hs;simp only[B8]at hs;subst hs;exact J;exact mT _ _ _ (h a (b - 1) s u (by omega) (by omega) (by omega) hs L) J;exact h a b s t I (by omega) E hs ht
def qF.sorted{m l:List A4}(J:(l.map (·.name)).Nodup)(hp:m.Perm l)(h:qF m m.length):m=Tq l:=by refine kX J hp ?_;rw[LG];intro i j L I E;exact h i j _ _ E I (Bu L) (Bu I)
def H7c(m:List A4)(j:Nat)(s:A4):B4 (m.set j s)=(B4 m).set j (Dp s):=by simp only[B4,List.map_set]
def tG{ro:Option Nat}{P:Program}{n:Nat}{Q:Exit->SL->Ac->Prop}{sl:SL}{bx:Ac}{c:Code}(t k J sz:Nat)(rs:List (List D))(V:J<=999999)
  (hx:(Ae sl t=.acc k/\A9 bx k=some (.rows sz rs))\/(Ae sl t=.d .nil/\rs=[]))(h:A0 ro P n c Q [(t,.acc J)] [(J,.rows sz rs)]):A0 ro P n c Q sl bx:=by rcases hx with⟨O,h2⟩|⟨O,rfl⟩;intro C S w β a hs;have W:=Ho h2;obtain⟨b1,Z⟩:=And.intro (hs.inv.box k _ W) (hs.inv.Bk k _ W);refine h C S w (F4 β J (β k)) a ⟨?_,hs.size,hs.defers,λu=>?_⟩;refine hs.inv.step (Cg.refl S w) (λb L=>.inl L) hs.inv.C9 (λb _ _=>rfl) rfl rfl rfl (Bv _) ?_ ?_ (λj E=>Mz (by omega)) ?_;intro j c E;simp only[Ay,Gg,Eh,Eo]at E;obtain⟨rfl,rfl⟩:=E;rw[Ht];exact⟨E4.ext (c:=.rows sz rs) b1 (Cg.refl _ _) (λ_ _=>rfl) (by simp[Ax.has]),λb L=>⟨(Z b L).1,(Z b L).2.1,.inr ⟨k,_,W,L⟩⟩⟩;intro j c j' c' E I b _ _;simp only[Ay,Gg,Eh,Eo]at E I;exact⟨E.1.trans I.1.symm,E.2.trans I.2.symm⟩;intro j Y st E;simp at E;simp only[Ae];split;rename_i he;subst he;have U:=hs.slot t;rw[O]at U;generalize a.tmps.getD t undef=v at U;cases U;have:=An.acc (S:=S) (w:=w) (β:=F4 β J (β k)) J;rw[Ht]at this;exact this;exact .undef _;refine A0.pp J sz t O ?_ V;exact A0.ww sS sB h
abbrev Ko:=[0,1,2,3,5,6,7,8,9,10,11,16,24,27,29,32,36,56]
def AH(p:Prog)(h:p.Sm)(env:List Aj)(aa:env.length<=sm)(he:∀f,f∈env->f.Sm)(x:Ty)(hx:x.Sm):Ab prog 51 [Cs p,.d (.slice (Ai env)),Ba x] (.d (.slice (B4 (C3 p env x)))):=by
 have ah:=OI env x aa;have ad:=h.decls.1;unfold C3;have hU:D7 p env x=D7 p env x:=rfl;generalize L:D7 p env x=l at hU |-;have am:(l.map (·.name)).Nodup:=by rw[<-L];unfold D7;split;exact XP _ _;split;simp;exact(DO _ _ _ (Bv _)).1
 have a1:l.length<=sm:=by rw[<-L];unfold D7;split;exact oQ p h _;split;simp;exact Cy (WG ..) ad
 have hy:((D3 env x).getD x).Sm:=by
  cases hb:D3 env x with
  |none=>exact hx
  |some y=>exact rW he hb
 have ab:(D3 env x).isSome = !decide (Fk env x<0):=by unfold D3;split;rename_i V;simp[V];rename_i V;obtain⟨f,hf,_⟩:=MH V;simp[hf,V]
 have ac:¬Fk env x<0->∃f,env[(Fk env x).toNat]?=some f/\(Fk env x).toNat<env.length/\(D3 env x).getD x=f.bound:=λV=>by obtain⟨f,h1,h2,_⟩:=MH V;exact⟨f,h1,h2,by unfold D3;rw[A5 V,h1];rfl⟩
 have a':Fk env x<0->(D3 env x).getD x=x:=λV=>by unfold D3;rw[A7 V];rfl
 unfold D7 at L;rw[ab]at L;generalize(D3 env x).getD x=y at*;generalize Fk env x=k at*;have U:=aG p y 2;have ak:=lv p h y hy;have af:=F4s p h y hy;refine cB func51 ?_;refine sR Ko ?_;refine sR Ko ?_;refine sC ah Ko<|sK λK1 u1=>?_;have a6:∀sl bx,Ae sl 3=.box 3 0->Ae sl 5=.box 5 0->Ae sl 7=.d .nil->Ae sl 8=A6 k->A9 bx 3=some (.cells ((Ah p).map .d))->A9 bx 5=some (.cells ((Bf y).map .d))->K1 sl bx:=λsl bx g1 g2 g3 g4 g5 g6=>by
  refine u1 _ _<|A0.ww (sl':=[(3,.box 3 0),(5,.box 5 0),(7,.d .nil),(8,A6 k)]) (bx':=[(3,.cells ((Ah p).map .d)),(5,.cells ((Bf y).map .d))]) (by simp[sle,B0,g1,g2,g3,g4]) (by simp[ble,g5,g6]) ?_;refine sK λK2 u2=>?_;have a0:∀q sl bx,(Ae sl 7=.acc q/\A9 bx q=some (.rows 7 (B4 l)))\/(Ae sl 7=.d .nil/\B4 l=[])->K2 sl bx:=λq sl bx g=>by
   refine u2 _ _<|tG 7 q 27 7 (B4 l) (by decide) g ?_;refine kR Ko λK3 u3=>?_;refine bA (A0.loop (X:=List A4 × Nat) (λz=>[(7,.acc 27),(9,A6 z.2)]) (λz=>[(27,.rows 7 (B4 z.1))]) (λz=>z.1.Perm l/\z.2<=l.length/\qF z.1 z.2) (λz=>l.length - z.2) (l,0) ⟨List.Perm.refl _,Xa _,by intro a b s t _ h;omega⟩ sS sB ?_)
   rintro⟨m,i⟩ ⟨O,a9,ho⟩;simp only at O a9 ho |-;have a5:=O.length_eq;refine sK λK4 u4=>?_;by_cases a4:(i:Int)<(m.length:Int)
   .refine Ak a4 Ko ?_;refine gI u4 ?_;refine sK λK5 u5=>bA<|sR Ko ?_;refine bA (A0.loop (X:=List A4 × Nat) (λz=>[(7,.acc 27),(9,A6 i),(10,A6 z.2)]) (λz=>[(27,.rows 7 (B4 z.1))]) (λz=>z.1.Perm l/\z.2<=i/\cH z.1 i z.2) (λz=>z.2) (m,i) ⟨O,Bv _,ho.start⟩ sS sB ?_)
    rintro⟨m,j⟩ ⟨O,a3,hI⟩;simp only at O a3 hI |-;have a5:=O.length_eq;have out:qF m (i+1)->∀sl bx,Ae sl 7=.acc 27->Ae sl 9=A6 i->A9 bx 27=some (.rows 7 (B4 m))->K5 sl bx:=λhO sl bx g1 g2 g3=>by apply u5;refine A0.ww (sl':=[(7,.acc 27),(9,A6 i)]) (bx':=[(27,.rows 7 (B4 m))]) (by simp[sle,B0,g1,g2]) (by simp[ble,g3]) ?_;refine lT Ko ?_;exact⟨(m,i+1),⟨O,by simp only;omega,hO⟩,by simp only;omega,sS,by simp[ble,A9]⟩
    refine sK λK6 u6=>?_;by_cases a8:j=0
    .have ao:¬(0:Int)<(j:Int):=by omega
     refine sG Ko [] 14 [] λK z=>?_;refine Bb ao ?_;apply z;refine sE ?_;exact out (hI.done (.inl a8)) _ _ rfl rfl rfl
    .have W:(0:Int)<(j:Int):=by omega
     obtain⟨t,ht⟩:∃t,m[j]?=some t:=⟨_,Bu (by omega)⟩;obtain⟨s,hs⟩:∃s,m[j - 1]?=some s:=⟨_,Bu (by omega)⟩;have E:=Dg ht;have J:=Dg hs;have Z:(j:Int) - 1=((j - 1:Nat):Int):=by omega
     have aj:=eN t.name s.name;refine sG Ko [] 14 [] λK z=>?_;simp -implicitDefEqProofs only[EV,D8,Nat.reduceAdd,Nat.reduceEqDiff,W,Z,E,J,Dp,];refine⟨by omega,by omega,?_⟩;(try simp -implicitDefEqProofs only[EV,D8,M6,Mp,Nat.reduceAdd,Nat.reduceEqDiff,Nat.reduceBEq,Nat.reduceLeDiff,Nat.reduceSub,Nat.reduceMul,Int.reduceEq,Int.reduceLT,Int.reduceLE,Int.reduceSub,Int.reduceAdd,Int.reduceToNat,reduceCtorEq,Int.reduceNeg,W,Z,E,J,Dp,Rh,Em]);refine⟨by first| (unfold B6;omega)| (simp only[B6,sm]at*;omega),?_⟩;(try simp -implicitDefEqProofs only[EV,D8,M6,Mp,Nat.reduceAdd,Nat.reduceEqDiff,Nat.reduceBEq,Nat.reduceLeDiff,Nat.reduceSub,Nat.reduceMul,Int.reduceEq,Int.reduceLT,Int.reduceLE,Int.reduceSub,Int.reduceAdd,Int.reduceToNat,reduceCtorEq,Int.reduceNeg,W,Z,E,J,Dp,Rh,Em]);refine⟨by omega,by omega,?_⟩;(try simp -implicitDefEqProofs only[EV,D8,M6,Mp,Nat.reduceAdd,Nat.reduceEqDiff,Nat.reduceBEq,Nat.reduceLeDiff,Nat.reduceSub,Nat.reduceMul,Int.reduceEq,Int.reduceLT,Int.reduceLE,Int.reduceSub,Int.reduceAdd,Int.reduceToNat,reduceCtorEq,Int.reduceNeg,W,Z,E,J,Dp,Rh,Em]);refine cc aj ?_;apply z;refine A0.cond rfl (λhc=>?_) (λhc=>?_)
     .have a7:Bw t.name s.name<0:=by simpa using hc
      refine cA (u6 _ _ ?_);refine sK λK7 u7=>bA ?_;refine sQ Ko λK z=>?_;refine G1 E @Dp.eq_1 ?_;refine⟨by omega,by omega,?_⟩;(try simp -implicitDefEqProofs only[EV,D8,M6,Mp,Nat.reduceAdd,Nat.reduceEqDiff,Nat.reduceBEq,Nat.reduceLeDiff,Nat.reduceSub,Nat.reduceMul,Int.reduceEq,Int.reduceLT,Int.reduceLE,Int.reduceSub,Int.reduceAdd,Int.reduceToNat,reduceCtorEq,Int.reduceNeg,E,Dp,Rh,Em]);apply z;have ag:((B4 m).set j (Dp s))[j - 1]?=some (Dp s):=by rw[uR (by omega)];exact J
      refine sQ Ko λK z=>?_;refine Nw Z E J ?_;refine⟨by unfold B6;unfold sm at a1;omega,by omega,by omega,by omega,by omega,_,Dp s,rfl,rfl,by simp,?_⟩;(try refine ev ?_);apply z;(refine lQ Ko λK z=>?_;simp -implicitDefEqProofs only[EV,D8,Nat.reduceAdd,Nat.reduceEqDiff,reduceCtorEq,Z,List.length_set];refine⟨by unfold B6;unfold sm at a1;omega,by omega,by omega,Dp s,Dp t,ag,rfl,by simp[Dp],?_⟩;(try refine ev ?_);apply z;try simp only[Aa,Af]);apply u7;(refine lQ Ko λK z=>?_;refine Bb Z ?_;refine⟨by unfold B6;unfold sm at a1;omega,?_⟩;(try refine Bb Z ?_);apply z;try simp only[Aa,]);exact⟨(UG m j s t,j - 1),⟨(H2j (by omega) hs ht).trans O,by simp only;omega,hI.step (by omega) a3 hs ht a7⟩,by simp only;omega,sS,by simp[ble,A9,UG,H7c,Dp]⟩
     .have ae:Bw s.name t.name<=0:=by
       have:=Zr t.name s.name;have:¬Bw t.name s.name<0:=by simpa using hc
       omega
      refine lA ?_;simp only[Aa,Af,Av];exact out (hI.done (.inr ⟨s,t,hs,ht,ae⟩)) _ _ rfl rfl rfl
   .have:i=l.length:=by omega
    subst this;refine Ak a4 Ko ?_;refine sE ?_;apply u3;have ai:m=Tq l:=(show qF m m.length by rw[a5];exact ho).sorted am O;subst ai;refine sR Ko ?_;exact aR
  by_cases I:B9 p y 2=true;rw[I]at U;rw[A7 I]at L;subst L;refine sC U Ko ?_;refine eA rfl ?_;(refine xA Ko [27] (by decide +kernel) λK z=>?_;refine ev ?_;refine⟨_,_,_,_,_,rfl,ak I,?_⟩;(try refine ev ?_);apply z;try simp only[Aa,]);exact a0 27 _ _ (.inl ⟨rfl,rfl⟩);rw[A5 I]at L;rw[pR]at I;rw[I]at U;refine sC U Ko ?_;refine dA rfl ?_;by_cases hk:k<0;rw[A5 (by simp[hk])]at L;subst L;refine Ak hk Ko ?_;refine eA rfl ?_;(refine xA Ko [32] (by decide +kernel) λK z=>?_;refine ev ?_;refine⟨_,_,_,_,_,rfl,af,?_⟩;(try refine ev ?_);apply z;try simp only[Aa,]);exact a0 32 _ _ (.inl ⟨rfl,rfl⟩);rw[A7 (by simp[hk])]at L;subst L;refine Ak hk Ko ?_;exact dA rfl (cA (a0 27 _ _ (.inr ⟨rfl,rfl⟩)))
 by_cases hk:k<0
 .have a2:¬k >= 0:=by omega
  have:=a' hk;subst this;refine Ak a2 Ko ?_;exact dA rfl (cA (a6 _ _ rfl rfl rfl rfl rfl rfl))
 .have a2:k >= 0:=by omega
  obtain⟨f,h1,h2,h3⟩:=ac hk;subst h3;refine Ak a2 Ko ?_;refine eA rfl ?_;(refine lV Ko λK z=>?_;refine ci (Fm h1) ?_;apply z;try simp only[Aa,]);exact a6 _ _ rfl rfl rfl rfl rfl rfl
def Fo(l:List A4)(nm:A3):Int:=E3 (λs=>decide (s.name=nm)) l
def H6f(nm:A3)(s:A4):Ab prog 305 [Db s,.A8 [.str nm] 0] (Ar (decide (s.name=nm))):=by refine cB func305 ?_;refine sR [0,1,2,3] ?_;refine sR [0,1,2,3] ?_;exact aR
def Jg:A4:=⟨[],[],[],.mk [] [] 0,0⟩
def dJ(l:List A4)(nm:A3):SV:=if Fo l nm<0 then .tuple [Db Jg,Ar false]else .tuple [Db ((l[(Fo l nm).toNat]?).getD Jg),Ar true]
abbrev OK:=[0,1,3,4,5,6,11]
def cY(l:List A4)(I:l.length<=sm)(nm:A3):Ab prog 265 [.d (.slice (B4 l)),Bo nm] (dJ l nm):=by
 have O:=G0f 305 [.A8 [.str nm] 0] (λ_=>rfl) (λs=>decide (s.name=nm)) l I (λs _=>H6f nm s);have J:=My (λs:A4=>decide (s.name=nm)) l;unfold dJ Fo;generalize E3 (λs:A4=>decide (s.name=nm)) l=k at*;refine cB func265 ?_;refine sR OK ?_;refine gA 3 rfl rfl<|A0.ww (sl':=[(0,.d (.slice (B4 l))),(3,.A8 [.str nm] 0),(4,.box 4 0),(5,Ar false)]) (bx':=[(4,.cells Rc)])
  (by simp[Ms,SV.sub,sle,B0,Ae]) (by simp[Kz,Ax.sub,nA,SV.sub,ble,A9,Cu]) ?_
 refine sC O OK ?_;rcases J with⟨rfl,_⟩|⟨j,s,rfl,hs,_⟩;refine kR OK λL u1=>?_;refine tI ?_;refine sR OK ?_;exact aR
 .have E:¬(j:Int)<0:=by omega
  rw[A5 E];simp only[Ic,hs,Dx];refine Ag E OK λL u1=>?_;refine kI u1 ?_;refine sI (Dg hs) [0,1,3,4,5,6,11] ?_;exact aR
def yI(l:List A4)(w:A4):Bool:=if Fo l w.name<0 then true else !Q5 ((l[(Fo l w.name).toNat]?).getD Jg).canon w.canon
def Ju(l m:List A4):List A3:=(m.filter (yI l)).map (·.name)
def OX{l m:List A4}{j:Nat}{d:A4}(ht:m.take (j+1)=m.take j++[d]):Ju l (m.take (j+1))=Ju l (m.take j)++if yI l d=true then[d.name]else[]:=by
 unfold Ju;rw[ht,mN,Gy]
 congr 1
 simp only[jN,iN];split <;> rfl
def vc(l m:List A4)(j:Nat):(Ju l (m.take j)).length<=j:=by unfold Ju;rw[B7];exact Cy (tN ..) (by rw[Dh];omega)
def I4g(l m:List A3):Bq (l++m)=Bq l++Bq m:=by simp[Bq]
abbrev Qb:=[0,1,4,5,7,8,9,10,11,12,13,30]
def G4i(l m:List A4)(hl:l.length<=sm)(hm:m.length<=sm)(hs:∀s,s∈l->s.Sm)(ht:∀s,s∈m->s.Sm):Ab prog 173 [.d (.slice (B4 l)),.d (.slice (B4 m))] (Cm (Ju l m)):=by
 refine cB func173 ?_;refine sR Qb ?_;refine sR Qb ?_;refine A0.pp 5 1 5 rfl<|kR Qb λK1 u1=>?_;refine bA (A0.ii m (X:=Unit) (λj _=>[(0,.d (.slice (B4 l))),(5,.acc 5),(10,.d (.slice (B4 m))),(11,A6 m.length),(12,A6 j)]) (λj _=>[(5,.rows 1 (Bq (Ju l (m.take j))))]) (λj _=>True) () trivial sS (by simp[ble,A9,Ju,Bq]) ?_ ?_)
 intro _ _;rw[Ca];refine Ak B1 Qb ?_;refine A0.stop rfl ?_;simp only[Aa,Af,Av];refine u1 _ _<|sR Qb ?_;exact aR
 .intro j _ d hd J dp tk U _;have a0:=vc l m j;have E:=OX (l:=l) tk;have I:=cY l hl d.name;have W:=ht d J;have Z:∀e,e∈l->Ab prog 266 [Db e,Db d] (Ar (Q5 e.canon d.canon)):=λe O=>sr e d (hs e O) W;have hc:=My (λs:A4=>decide (s.name=d.name)) l;unfold dJ at I;unfold yI at E;unfold Fo at*;generalize E3 (λs:A4=>decide (s.name=d.name)) l=k at*;refine Ak U Qb ?_;refine kA rfl<|sK λL u2=>bA<|sI (Dg hd) [0,1,4,5,7,8,9,10,11,12,13,30] ?_;rcases hc with⟨rfl,_⟩|⟨q,e,rfl,he,_⟩
  rw[A7 (show(-1:Int)<0 by decide)]at I E;rw[A7 rfl]at E;refine sC I Qb ?_;refine sR Qb ?_;refine eA rfl ?_;(refine lV Qb λK z=>?_;refine⟨by simp,by unfold lim sm at*;omega,?_⟩;(try refine ev ?_);apply z;try simp only[Aa,Af]);apply u2;refine lT Qb ?_;exact⟨(),trivial,sS,by simp[ble,A9,E,Bq]⟩
  .have V:¬(q:Int)<0:=by omega
   rw[A5 V]at I E;simp only[Ic,he,Dx]at I E;have ha:=Z e (Bs he);generalize Q5 e.canon d.canon=bb at*;cases bb;rw[A7 (by decide)]at E;refine sC I Qb ?_;refine sC ha Qb ?_;refine eA rfl ?_;(refine lV Qb λK z=>?_;refine⟨by simp,by unfold lim sm at*;omega,?_⟩;(try refine ev ?_);apply z;try simp only[Aa,Af]);apply u2;refine lT Qb ?_;exact⟨(),trivial,sS,by simp[ble,A9,E,Bq]⟩;rw[A5 (by decide),Fv]at E;refine sC I Qb ?_;refine sC ha Qb ?_;refine dA rfl (cA (u2 _ _ ?_));refine lT Qb ?_;exact⟨(),trivial,sS,by simp[ble,A9,E]⟩
def G4r(l m:List A4)(L:l.length<=sm)(I:m.length<=sm)(hs:∀s,s∈l->s.Sm)(ht:∀s,s∈m->s.Sm):Ab prog 87 [.d (.slice (B4 l)),.d (.slice (B4 m))] (Ar (decide (Ju l m=[]))):=by
 have h:=G4i l m L I hs ht;have e:decide (((Ju l m).length:Int)=0)=decide (Ju l m=[]):=by
  by_cases E:Ju l m=[];simp[E]
  .have J:¬((Ju l m).length:Int)=0:=by have:=List.length_pos_iff.2 E;omega
   rw[Cb E,Cb J]
 rw[<-e];generalize Ju l m=z at*;refine cB func87 ?_;refine sR [0,1,4] ?_;refine sC h [0,1,4] ?_;exact aR
abbrev Sk:=[0,1,4,5,6,7,11,34]
def G3m(l m:List A4)(hl:l.length<=sm)(hm:m.length<=sm)(hs:∀s,s∈l->s.Sm)(ht:∀s,s∈m->s.Sm):Ab prog 131 [.d (.slice (B4 l)),.d (.slice (B4 m))] (Cm (Ju l m)):=by
 refine cB func131 ?_;refine sR Sk ?_;refine sR Sk ?_;refine A0.pp 5 1 5 rfl<|kR Sk λK1 u1=>?_;refine bA (A0.ii m (X:=Unit) (λj _=>[(0,.d (.slice (B4 l))),(1,.d (.slice (B4 m))),(5,.acc 5),(6,A6 j)]) (λj _=>[(5,.rows 1 (Bq (Ju l (m.take j))))]) (λj _=>True) () trivial sS (by simp[ble,A9,Ju,Bq]) ?_ ?_)
 intro _ _;rw[Ca];refine Ag B1 Sk λJ u2=>?_;refine sE ?_;refine u1 _ _<|sR Sk ?_;exact aR
 .intro j _ d hd L dp tk W _;have a1:=vc l m j;have E:=OX (l:=l) tk;have U:=GL l d.name hl;have Z:=ht d L;have a0:∀e,e∈l->Ab prog 199 [Db e,Db d] (Ar (Q5 e.canon d.canon)):=λe V=>qw e d (hs e V) Z;have hc:=My (λs:A4=>decide (s.name=d.name)) l;unfold yI at E;unfold Fo at*;generalize E3 (λs:A4=>decide (s.name=d.name)) l=k at*;refine Ag W Sk λJ u2=>?_;refine gI u2 ?_;refine sK λJ u2=>bA ?_;refine sV Sk λK z=>?_;refine ci (Dg hd) ?_;refine cc U ?_;apply z;rcases hc with⟨rfl,_⟩|⟨q,e,rfl,O,_⟩;rw[A7 (show(-1:Int)<0 by decide)]at E;rw[A7 rfl]at E;refine dR Sk 11 ?_;refine eA rfl ?_;(refine lV Sk λK z=>?_;refine ci (Dg hd) ?_;refine⟨by simp,by unfold lim sm at*;omega,?_⟩;(try refine ev ?_);apply z;try simp only[Aa,Af]);apply u2;refine lT Sk ?_;exact⟨(),trivial,sS,by simp[ble,A9,E,Bq]⟩
  .have I:¬(q:Int)<0:=by omega
   rw[A5 I]at E;simp only[Ic,O,Dx]at E;have ha:=a0 e (Bs O);generalize Q5 e.canon d.canon=bb at*;cases bb;rw[A7 (by decide)]at E;refine sG Sk [] 11 [] λK z=>?_;refine Bb I ?_;refine ci (Dg O) ?_;refine ci (Dg hd) ?_;refine cc ha ?_;apply z;refine eA rfl ?_;(refine lV Sk λK z=>?_;refine ci (Dg hd) ?_;refine⟨by simp,by unfold lim sm at*;omega,?_⟩;(try refine ev ?_);apply z;try simp only[Aa,Af]);apply u2;refine lT Sk ?_;exact⟨(),trivial,sS,by simp[ble,A9,E,Bq]⟩;rw[A5 (by decide),Fv]at E;refine sG Sk [] 11 [] λK z=>?_;refine Bb I ?_;refine ci (Dg O) ?_;refine ci (Dg hd) ?_;refine cc ha ?_;apply z;refine dA rfl (cA (u2 _ _ ?_));refine lT Sk ?_;exact⟨(),trivial,sS,by simp[ble,A9,E]⟩
def F5e{vars:List A3}{args:List Ty}(I:∀u,u∈args->u.Sm){l:List A4}(E:∀s,s∈l->s.Sm)(j:Nat):∀s,s∈Im vars args l j->s.Sm:=λs hs=>by unfold Im at hs;obtain⟨⟨x,i⟩,O,rfl⟩:=Ap.1 hs;have L:=(Kp.1 O).1;have J:=Kv (Xr L);exact A4.Sm.subst I (E x J).canon
def DY{p:Prog}(h:p.Sm){env:List Aj}(O:∀f,f∈env->f.Sm){x:Ty}(E:x.Sm):∀s,s∈D7 p env x->s.Sm:=by
 have J:((D3 env x).getD x).Sm:=by
  cases U:D3 env x with
  |none=>exact E
  |some y=>exact rW O U
 unfold D7;generalize(D3 env x).getD x=y at*;intro s hs;split at hs;rename_i I;unfold Hj at hs;rw[A7 I]at hs;obtain⟨d,hd,_⟩:=La (by decide) I;rw[hd,Dx]at hs;exact F5e J.arg (h.decls.2 d (P3 hd)).sigs.2 _ s hs;split at hs;simp at hs;unfold Hf at hs;obtain⟨⟨d,i⟩,E,rfl⟩:=Ap.1 hs;have V:=(Kp.1 E).1;have L:d∈p.decls:=Kv (Xr V);exact A4.Sm.subst J.arg (h.decls.2 d L).sig.canon
def G5b{p:Prog}(h:p.Sm)(env:List Aj)(x:Ty):(D7 p env x).length<=sm:=by unfold D7;split;exact oQ p h _;split;simp;exact Cy (WG ..) h.decls.1
def qC{p:Prog}(h:p.Sm){env:List Aj}(E:∀f,f∈env->f.Sm){x:Ty}(I:x.Sm):∀s,s∈C3 p env x->s.Sm:=λs hs=>DY h E I s ((Zv _).mem_iff.1 hs)
def W0{p:Prog}(h:p.Sm)(env:List Aj)(x:Ty):(C3 p env x).length<=sm:=by unfold C3;rw[(Zv _).length_eq];exact G5b h env x
def isIface(p:Prog)(env:List Aj)(x:Ty):Bool:=B9 p x 2 && !(D3 env x).isSome
abbrev LC:=[0,1,2,5,6,8,10,20]
def fw(p:Prog)(h:p.Sm)(env:List Aj)(J:env.length<=sm)(L:∀f,f∈env->f.Sm)(x:Ty)(O:x.Sm):Ab prog 85 [.A8 (D4 p) 0,.d (.slice (Ai env)),Ba x] (Ar (isIface p env x)):=by
 have I:=zP env x J L;have E:=tS p h x O;unfold isIface;generalize D3 env x=o at*;generalize B9 p x 2=bb at*;refine cB func85 ?_;refine sR LC ?_;cases o with
 |none =>simp only[qD]at I;refine sC I LC ?_;refine jA LC [20] (by decide +kernel) λK z=>?_;refine ev ?_;refine⟨_,_,_,_,_,rfl,E,?_⟩;(try refine ev ?_);apply z;cases bb;refine sR LC ?_;exact aR;refine sR LC ?_;exact aR
 |some y =>simp only[qD]at I;refine sC I LC ?_;refine jA LC [20] (by decide +kernel) λK z=>?_;refine ev ?_;refine⟨_,_,_,_,_,rfl,E,?_⟩;(try refine ev ?_);apply z;cases bb;refine sR LC ?_;exact aR;refine sR LC ?_;exact aR
def Ql(env:List Aj)(x:Ty):(D3 env x).isSome = !decide (Fk env x<0):=by unfold D3;split;rename_i E;simp[E];rename_i E;obtain⟨f,I,_⟩:=MH E;simp[I,E]
def Hl(p:Prog)(env:List Aj)(I:env.length<=sm)(x:Ty):Ab prog 130 [Cs p,.d (.slice (Ai env)),Ba x] (Ar (isIface p env x)):=by
 have J:=OI env x I;have L:=aG p x 2;unfold isIface;rw[Ql];generalize Fk env x=k at*;generalize B9 p x 2=bb at*;refine cB func130 ?_;refine sR [0,1,2,3,5,6] ?_;by_cases E:k<0
 ·(refine sV [0,1,2,3,5,6] λK z=>?_;refine E0 E J ?_;refine cc L ?_;apply z)
  simp only[E,Xx,jR,mR,EG];exact aR
 ·(refine sV [0,1,2,3,5,6] λK z=>?_;refine E0 E J ?_;apply z)
  simp only[E,CG,jR,mR,Tx];exact aR
def Cr(p:Prog)(env:List Aj)(t i:Ty):Bool:=if isIface p env i=true then decide (Ju (C3 p env t) (C3 p env i)=[])else R9 t i
abbrev LK:=[0,1,2,3,6,7,8,13]
def ic(p:Prog)(h:p.Sm)(env:List Aj)(E:env.length<=sm)(I:∀f,f∈env->f.Sm)(t i:Ty)(ht:t.Sm)(J:i.Sm):Ab prog 34 [.A8 (D4 p) 0,.d (.slice (Ai env)),Ba t,Ba i] (Ar (Cr p env t i)):=by have L:=fw p h env E I i J;have W:=qO t i ht;have Z:=cQ p h env E I t ht;have U:=cQ p h env E I i J;have O:=G4r (C3 p env t) (C3 p env i) (W0 h env t) (W0 h env i) (qC h I ht) (qC h I J);unfold Cr;generalize isIface p env i=bb at*;generalize C3 p env t=l at*;generalize C3 p env i=m at*;refine cB func34 ?_;refine sR LK ?_;cases bb;rw[A5 (by decide)];refine kC L LK λV u1=>?_;refine tI ?_;refine sC W LK ?_;exact aR;rw[A7 rfl];refine kC L LK λV u1=>?_;refine kI u1 ?_;refine sG LK [] 7 [] λK z=>?_;refine ev ?_;refine cc Z ?_;refine cc U ?_;refine cc O ?_;apply z;exact aR
abbrev KK:=[0,1,2,3,4,6,7,8,12]
def nJ(p:Prog)(h:p.Sm)(env:List Aj)(E:env.length<=sm)(I:∀f,f∈env->f.Sm)(t i:Ty)(ht:t.Sm)(O:i.Sm):Ab prog 53 [Cs p,.d (.slice (Ai env)),Ba t,Ba i] (Ar (Cr p env t i)):=by
 have J:=Hl p env E i;have Z:=F4m t i ht;have h3:=AH p h env E I t ht;have V:=AH p h env E I i O;have U:=G3m (C3 p env t) (C3 p env i) (W0 h env t) (W0 h env i) (qC h I ht) (qC h I O);unfold Cr;generalize isIface p env i=bb at*;generalize C3 p env t=l at*;generalize C3 p env i=m at*;have e:decide (((Ju l m).length:Int)=0)=decide (Ju l m=[]):=by
  by_cases L:Ju l m=[];simp[L]
  .have J:¬((Ju l m).length:Int)=0:=by have:=List.length_pos_iff.2 L;omega
   rw[Cb L,Cb J]
 rw[<-e];generalize Ju l m=z at*;refine cB func53 ?_;refine sR KK ?_;cases bb;rw[A5 (by decide)];refine kC J KK λW u1=>?_;refine kI u1 ?_;refine sC Z KK ?_;exact aR;rw[A7 rfl];refine kC J KK λW u1=>?_;refine tI ?_;refine sG KK [] 7 [] λK z=>?_;refine ev ?_;refine cc h3 ?_;refine cc V ?_;refine cc U ?_;apply z;exact aR
def CH(p:Prog)(env fs:List Aj)(args:List Ty)(z:Aj × Ty):Bool:=!Cr p env z.2 (z.1.bound.subst (Ad fs) args)
def Hn(p:Prog)(env fs:List Aj)(args:List Ty):Int:=E3 (CH p env fs args) (fs.zip args)
def G9m{α β:Type}{l:List α}{m:List β}{j:Nat}{a:α}{b:β}(E:l[j]?=some a)(I:m[j]?=some b):(l.zip m).take (j+1)=(l.zip m).take j++[(a,b)]/\(l.zip m)[j]?=some (a,b):=by
 have h:(l.zip m)[j]?=some (a,b):=by rw[xR];exact⟨E,I⟩
 refine⟨?_,h⟩;rw[yW,h];rfl
abbrev dE:=[0,1,2,3,4,8,9,13,32]
def Oh(p:Prog)(h:p.Sm)(env:List Aj)(a0:env.length<=sm)(he:∀f,f∈env->f.Sm)(fs:List Aj)(a1:fs.length<=sm)(hf:∀f,f∈fs->f.Sm)(args:List Ty)(a4:args.length=fs.length)(U:∀u,u∈args->u.Sm) :Ab prog 191 [Cs p,.d (.slice (Ai env)),.d (.slice (Ai fs)),Cv args] (A6 (Hn p env fs args)):=by
 have E:=Ss fs a1;unfold Hn;refine cB func191 ?_;refine sR dE ?_;refine kR dE λK1 u1=>?_;refine bA (A0.ii fs (X:=Unit) (λj _=>[(1,.d (.slice (Ai env))),(2,.d (.slice (Ai fs))),(3,Cv args),(4,.box 4 0),(9,A6 j)]) (λ_ _=>[(4,.cells ((Ah p).map .d))]) (λj _=>∀y,y∈(fs.zip args).take j->CH p env fs args y=false) () (by simp) sS (by simp[ble,A9,Ah]) ?_ ?_);intro _ J;rw[UC (by rw[rE];omega)]at J;refine Ag B1 dE λO u2=>?_;refine sE ?_;refine u1 _ _<|sR dE ?_;rw[T5 J];exact aR
 .intro j _ d hd I dp tk W J;obtain⟨u,hu,_⟩:=YG (l:=args) (j:=j) (by omega);have a2:=Bs hu;obtain⟨a3,Z⟩:=G9m hd hu;have L:=Qw (Ad fs) args U d.bound (hf d I).bound;have V:=nJ p h env a0 he u (d.bound.subst (Ad fs) args) (U u a2) (Ty.Sm.subst U _ (hf d I).bound);have hq:CH p env fs args (d,u) = !Cr p env u (d.bound.subst (Ad fs) args):=rfl;generalize Cr p env u (d.bound.subst (Ad fs) args)=bb at*;refine Ag W dE λO u2=>?_;refine gI u2 ?_;refine sK λO u2=>bA ?_;refine sG dE [] 15 [] λK z=>?_;refine ev ?_;refine ci (Fs hu) ?_;refine ci (Fm hd) ?_;refine cc E ?_;refine cc L ?_;refine cc V ?_;apply z;cases bb;refine eA rfl<|sR dE ?_;rw[Rv Z hq J];exact aR
  refine dA rfl (cA (u2 _ _ ?_));refine lT dE ?_;refine⟨(),?_,sS,(by simp[ble,A9,Ah])⟩;rw[a3];intro y hy;rcases Bj.1 hy with hy|hy;exact J y hy;simp only[Ay,Eh,Eo]at hy;rw[hy];exact hq
def Hu(c:Int):Option Int->D
 |none=>.Hd
 |some n=>.iface 128 (.agg [.int .i64 c,.int .i64 n])
def oo(c n:Int):Ab prog 26 [A6 c,A6 n] (.d (Hu c (some n))):=by refine cB func26 ?_;refine sR [0,1,4] ?_;refine sV [0,1,4] λK z=>?_;refine⟨[.int .i64 c,.int .i64 n],rfl,?_⟩;(try refine ev ?_);apply z;exact aR
mutual
def Br(p:Prog)(env:List Aj):Ty->Option Int
 |.mk n a pos=>if(D3 env (.mk n a pos)).isSome=true then none else if kindOf p n=0\/(Dm p n).length≠a.length then some pos else
   match P7 p env a with
   |some q=>some q
   |none=>if 0<=Hn p env (Dm p n) a then some ((a[(Hn p env (Dm p n) a).toNat]?).getD default).pos else none
def P7(p:Prog)(env:List Aj):List Ty->Option Int
 |[]=>none
 |t::E=>match Br p env t with
  |some q=>some q
  |none=>P7 p env E
end
def r6(p:Prog)(env:List Aj)(x:Ty):Br p env x=if(D3 env x).isSome=true then none else if kindOf p x.name=0\/(Dm p x.name).length≠x.args.length then some x.pos else
   match P7 p env x.args with
   |some q=>some q
   |none=>if 0<=Hn p env (Dm p x.name) x.args then some ((x.args[(Hn p env (Dm p x.name) x.args).toNat]?).getD default).pos else none:=by cases x with|mk n a pos=>rw[Br];rfl
def CQ{p:Prog}(h:p.Sm)(nm:A3):(Dm p nm).length<=sm/\∀f,f∈Dm p nm->f.Sm:=by
 unfold Dm;cases E:Ec p nm with
 |none=>simp
 |some d=>exact(h.decls.2 d (P3 E)).A1
def mm{p:Prog}{env fs:List Aj}{a:List Ty}(h:0<=Hn p env fs a)(J:a.length=fs.length):∃u,a[(Hn p env fs a).toNat]?=some u:=by unfold Hn at*;rcases My (CH p env fs a) (fs.zip a)with⟨E,_⟩|⟨j,z,E,I,_⟩;omega;rw[E];have:=(Az.1 I).1;rw[rE]at this;exact⟨_,Bu (by omega)⟩
def V6:Option Int->SV
 |some q=>.tuple [A6 q,Ar true]
 |none=>.tuple [A6 0,Ar false]
abbrev I6:=[0,1,2,3,5,6,7,8,9,10,11,12,16,33,40,54,63]
def FI(p:Prog)(h:p.Sm)(env:List Aj)(a3:env.length<=sm)(he:∀f,f∈env->f.Sm):∀x:Ty,x.Sm->Ab prog 113 [Cs p,.d (.slice (Ai env)),Ba x] (V6 (Br p env x)):=by
 intro x
 induction x using Ty.induct with
 |h x ih =>
 intro hx;have hf:=OI env x a3;have a1:=yQ p x.name;have a2:=yK p x.name;obtain⟨a6,a5⟩:=CQ h x.name;have V:=Oh p h env a3 he (Dm p x.name) a6 a5 x.args;have Z:=@mm p env (Dm p x.name) x.args;have a8:=hx.len;rw[r6,Ql];generalize Fk env x=z at*;generalize Dm p x.name=fs at*;generalize kindOf p x.name=k at*;by_cases hz:z<0
 .rw[A5 (by simp[hz])];have J:¬z >= 0:=by omega
  by_cases hk:k=0
  .rw[A7 (.inl hk)];refine cB func113 ?_;refine sR I6<|sK λI u1=>?_
   (refine sV I6 λK z=>?_;refine E0 J hf ?_;apply z)
   refine kI u1 ?_;refine sC a1 I6<|sK λI u1=>?_
   (refine sV I6 λK z=>?_;refine E0 hk a2 ?_;apply z)
   refine tI ?_;refine sR I6 ?_;exact aR
  .by_cases L:fs.length=x.args.length
   .have E:(fs.length:Int)=x.args.length:=by omega
    have V:=V L.symm hx.arg;have Z:=λhh=>Z hh L.symm;rw[A5 (by rintro(h1|h1) <;> contradiction)];generalize Hn p env fs x.args=b at*;generalize a7:P7 p env x.args=oc;refine cB func113 ?_;refine sR I6<|sK λI u1=>?_
    (refine sV I6 λK z=>?_;refine E0 J hf ?_;apply z)
    refine kI u1 ?_;refine sC a1 I6<|sK λI u1=>?_
    (refine sV I6 λK z=>?_;refine cc2 hk E a2 ?_;apply z)
    refine kI u1 ?_;refine kR I6 λI u1=>?_;refine bA (A0.ii x.args (X:=Unit) (λj _=>[(1,.d (.slice (Ai env))),(3,.box 3 0),(5,.box 5 0),(8,.d (.slice (Ai fs))),(9,A6 j)]) (λ_ _=>[(3,.cells ((Ah p).map .d)),(5,.cells ((Bf x).map .d))]) (λj _=>P7 p env (x.args.drop j)=oc) () a7 sS (by simp[ble,A9,Bf,Ah]) ?_ ?_)
    .intro _ U;rw[Dk,P7]at U;subst U;simp only;refine Ag B1 I6 λK2 u2=>?_;refine sE ?_;apply u1;by_cases O:0<=b
     .obtain⟨u,hu⟩:=Z O;have a0:b >= 0:=O;rw[A7 O,hu,Dx];refine sC V I6 ?_;refine Ag a0 I6 λI u1=>?_;refine tI ?_;refine sI (Fs hu) [0,1,2,3,5,6,7,8,9,10,11,12,16,33,40,54,63] ?_;exact aR
     .have a0:¬b >= 0:=O;rw[A5 O];refine sC V I6 ?_;refine Ag a0 I6 λI u1=>?_;refine kI u1 ?_;refine sR I6 ?_;exact aR
    .intro j _ d hd W dp tk a4 U;have hc:=ih d W (hx.arg d W);rw[dp,P7]at U;refine Ag a4 I6 λK2 u2=>?_;refine gI u2 ?_;refine sK λK2 u2=>bA ?_;cases ho:Br p env d with
     |none =>
      rw[ho]at hc U;simp only[V6]at hc U
      (refine sG I6 [] 12 [] λK z=>?_;refine ev ?_;refine ci (Fs hd) ?_;refine cc hc ?_;apply z)
      refine sR I6 ?_;refine dA rfl (cA (u2 _ _ ?_));refine lT I6 ?_;exact⟨(),U,sS,(by simp[ble,A9,Bf,Ah])⟩
     |some q =>
      rw[ho]at hc U;simp only[V6]at hc U
      (refine sG I6 [] 12 [] λK z=>?_;refine ev ?_;refine ci (Fs hd) ?_;refine cc hc ?_;apply z)
      refine sR I6 ?_;refine eA rfl<|sR I6 ?_;subst U;exact aR
   .have E:¬(fs.length:Int)=x.args.length:=by omega
    rw[A7 (.inr L)];refine cB func113 ?_;refine sR I6<|sK λI u1=>?_
    (refine sV I6 λK z=>?_;refine E0 J hf ?_;apply z)
    refine kI u1 ?_;refine sC a1 I6<|sK λI u1=>?_
    (refine sV I6 λK z=>?_;refine cc2 hk E a2 ?_;apply z)
    refine tI ?_;refine sR I6 ?_;exact aR
 .have J:z >= 0:=by omega
  rw[A7 (by simp[hz])];refine cB func113 ?_;refine sR I6<|sK λI u1=>?_
  (refine sV I6 λK z=>?_;refine E0 J hf ?_;apply z)
  refine tI ?_;refine sR I6 ?_;exact aR
open Go Go.Proofs Go.RowKit Tryz
structure Kept(t:Nat)(w w':World):Prop where
 heap:∀b,b<w.heap.size->b≠t->w'.heap[b]?=w.heap[b]?
 os:w'.os=w.os
 tape:w'.tape=w.tape
 output:w'.output=w.output
 size:w.heap.size<=w'.heap.size
theorem Kept.refl(t:Nat)(w:World):Kept t w w:=⟨λ_ _ _=>rfl,rfl,rfl,rfl,Bv _⟩
def Kept.alloc{t:Nat}{w w':World}(h:Kept t w w')(o:Obj):Kept t w (w'.alloc o) :=⟨λb E I=>by rw[RowKit.Below.heap_alloc _ _ b (X0 E h.size)];exact h.heap b E I,h.os,h.tape,h.output,by have:=h.size;simp[-World.alloc_eq,World.alloc];omega⟩
def Kept.setRow{t:Nat}{w w':World}(h:Kept t w w')(cs:Array Value):Kept t w (w'.setRow t cs) :=⟨λb I E=>by
  have:(w'.setRow t cs).heap[b]?=w'.heap[b]?:=by simp[World.setRow,FJ,Zy E]
  rw[this];exact h.heap b I E,h.os,h.tape,h.output,by have:=h.size;simp[World.setRow];omega⟩
def Kept.wC(P:TypeId)(t:Nat)(w:World):Kept t w (As.wC P t w):=by unfold As.wC As.wB As.wA;exact(((Kept.refl t w).alloc _).alloc _).alloc _
def xc(w:World)(t:Nat)(cs Hk:Array Value)(ty:TypeId)(j:Nat)(v:Value)(h:w.heap[t]?=some (.cells Hk ty (0,0)))(E:cs[j]?=some v):(w.setRow t cs).cell? ⟨t,j,none⟩=some v:=by have:=setRow_heap w t Hk cs ty (0,0) h;simp[World.cell?,this,E]
def cv(e f:Int)(t:Nat)(Hk:Array Value)(ty:TypeId)(w:World)(J:w.cell? ⟨0,0,none⟩=some (As.Lv 40))(E:0<w.heap.size)(ht:w.heap[t]?=some (.cells Hk ty (0,0)))(L:Hk.size=1) :Calls prog 77 #[.iface 128 (.agg #[.int .i64 e,.int .i64 f]),.iface 134 (.pointer (some ⟨t,0,none⟩))] w λev w'=>ev=.returned (.bool true)/\w'.cell? ⟨t,0,none⟩=some (.int .i64 e)/\Kept t w w':=by have I:t<w.heap.size:=(U6.1 ht).1;refine(As.F9w e f t Hk ty w J E ht L).mono ?_;rintro ev w' ⟨rfl,rfl⟩;have O:=((Kept.wC 134 t w).alloc (.cells #[.int .i64 e,.int .i64 f] 128)).alloc (.cells #[.int .i64 e] 69);refine⟨rfl,xc _ t _ Hk ty 0 _ ?_ rfl,O.setRow _⟩;rw[RowKit.Below.heap_alloc _ _ t (by simp[-World.alloc_eq,World.alloc,As.ED];omega),RowKit.Below.heap_alloc _ _ t (by rw[As.ED];omega),As.OQ _ _ _ _ I];exact ht
def tu(e f:Int)(t:Nat)(Hk:Array Value)(ty:TypeId)(w:World)(J:w.cell? ⟨0,0,none⟩=some (As.Lv 40))(E:0<w.heap.size)(ht:w.heap[t]?=some (.cells Hk ty (0,0)))(L:Hk.size=2) :Calls prog 77 #[.iface 128 (.agg #[.int .i64 e,.int .i64 f]),.iface 135 (.pointer (some ⟨t,0,none⟩))] w λev w'=>ev=.returned (.bool true)/\w'.cell? ⟨t,1,none⟩=some (.int .i64 f)/\Kept t w w':=by have I:t<w.heap.size:=(U6.1 ht).1;refine(As.G9n e f t Hk ty w J E ht L).mono ?_;rintro ev w' ⟨rfl,rfl⟩;have O:=(Kept.wC 135 t w).alloc (.cells #[.int .i64 e,.int .i64 f] 128);refine⟨rfl,xc _ t _ Hk ty 1 _ ?_ rfl,O.setRow _⟩;rw[RowKit.Below.heap_alloc _ _ t (by rw[As.ED];omega),As.OQ _ _ _ _ I];exact ht
def Kept.after{w w':World}{o:Obj}(h:Kept w.heap.size (w.alloc o) w'):Kept w.heap.size w w' :=⟨λb I E=>by rw[h.heap b (by simp[-World.alloc_eq,World.alloc];omega) E,RowKit.Below.heap_alloc _ _ b I],h.os,h.tape,h.output,by have:=h.size;simp[-World.alloc_eq,World.alloc]at this;omega⟩
def G4b(e f:Int)(w:World)(L:w.cell? ⟨0,0,none⟩=some (As.Lv 40))(J:0<w.heap.size) :Calls prog 29 #[.iface 128 (.agg #[.int .i64 e,.int .i64 f])] w λev w'=>ev=.returned (.tuple #[.int .i64 e,.bool true])/\Kept w.heap.size w w':=by
 have O:=cv e f w.heap.size #[.int .i64 0] 69 (w.alloc (.cells #[.int .i64 0] 69)) (by rw[World.cell?_alloc_lt _ _ ⟨0,0,none⟩ J];exact L) (by simp[-World.alloc_eq,World.alloc] <;> omega) (by simp[-World.alloc_eq,World.alloc]) rfl
 go_enter func29,ntmps29
 go_wp2_with (go_at_call 77;refine O.mono ?_;rintro ev w' ⟨rfl,I,E⟩)
 go_ret2
 exact⟨rfl,E.after⟩
def G9p(e f:Int)(w:World)(L:w.cell? ⟨0,0,none⟩=some (As.Lv 40))(J:0<w.heap.size) :Calls prog 30 #[.iface 128 (.agg #[.int .i64 e,.int .i64 f])] w λev w'=>ev=.returned (.tuple #[.int .i64 f,.bool true])/\Kept w.heap.size w w':=by
 have O:=tu e f w.heap.size #[.int .i64 0,.int .i64 0] 128 (w.alloc (.cells #[.int .i64 0,.int .i64 0] 128)) (by rw[World.cell?_alloc_lt _ _ ⟨0,0,none⟩ J];exact L) (by simp[-World.alloc_eq,World.alloc] <;> omega) (by simp[-World.alloc_eq,World.alloc]) rfl
 go_enter func30,ntmps30
 go_wp2_with (go_at_call 77;refine O.mono ?_;rintro ev w' ⟨rfl,I,E⟩)
 go_ret2
 exact⟨rfl,E.after⟩
def xm{S:Nat->Prop}{w:World}{c q:Int}{v:Value}(h:C5 S w (Hu c (some q)) v):v=.iface 128 (.agg #[.int .i64 c,.int .i64 q]):=by
 unfold Hu at h;cases h with
 |iface _ _ u O =>
  cases O with
  |agg _ vs L U E =>
   match vs,L,E with
   |[a,b],_,E =>have I:=E 0 _ _ rfl rfl;have J:=E 1 _ _ rfl rfl;cases I;cases J;rfl
def s8{C:Ctx}{S:Nat->Prop}{w:World}{β:Names}{bx:Ac}(h:Inv C S w β bx):w.cell? ⟨0,0,none⟩=some (As.Lv 40)/\0<w.heap.size:=by obtain⟨hs,ty,I,E⟩:=h.Ek 0 HP (.inr (.inl ⟨rfl,rfl,trivial⟩));exact⟨by simp[World.cell?,E,HP],(U6.1 E).1⟩
def RX{C:Ctx}{β:Names}{w':World}(J:Inv C C.S0 C.w0 β [])(E:Kept C.w0.heap.size C.w0 w'):Inv C C.S0 w' β [] :=(J.grow (λ_ h=>h) (λ_ h=>.inl h) (λb I=>X0 (J.C9 b I) E.size) (λb I=>E.heap b I (by omega)) E.os E.tape E.output E.size).1
def H2h(c q:Int):Ab prog 29 [.d (Hu c (some q))] (.tuple [A6 c,Ar true]):=by
 refine⟨(Enters.of func29 rfl (by decide)),λC β vs U E=>?_⟩;obtain⟨v,I,L⟩:=E.get (j:=0) (c:=.d (Hu c (some q))) rfl;have O:vs=[.iface 128 (.agg #[.int .i64 c,.int .i64 q])]:=by
  have V:=E.1
  match vs,V with
  |[u],_=>simp only[Rh,B8]at I;subst I;rw[xm L.Js]
 subst O;obtain⟨W,g2⟩:=s8 U;refine(G4b c q C.w0 W g2).mono ?_;rintro e w' ⟨rfl,Z⟩;exact⟨_,C.S0,β,rfl,RX U Z,.tuple _ [.int .i64 c,.bool true] rfl (by intro j x v J E;match j with|0=>simp at J E;subst J;subst E;exact .d _ _ (.int _ _)|1=>simp at J E;subst J;subst E;exact .d _ _ (.bool _)|j+2=>simp at J)⟩
def G4t(c q:Int):Ab prog 30 [.d (Hu c (some q))] (.tuple [A6 q,Ar true]):=by
 refine⟨(Enters.of func30 rfl (by decide)),λC β vs U E=>?_⟩;obtain⟨v,I,L⟩:=E.get (j:=0) (c:=.d (Hu c (some q))) rfl;have O:vs=[.iface 128 (.agg #[.int .i64 c,.int .i64 q])]:=by
  have V:=E.1
  match vs,V with
  |[u],_=>simp only[Rh,B8]at I;subst I;rw[xm L.Js]
 subst O;obtain⟨W,g2⟩:=s8 U;refine(G9p c q C.w0 W g2).mono ?_;rintro e w' ⟨rfl,Z⟩;exact⟨_,C.S0,β,rfl,RX U Z,.tuple _ [.int .i64 q,.bool true] rfl (by intro j x v J E;match j with|0=>simp at J E;subst J;subst E;exact .d _ _ (.int _ _)|1=>simp at J E;subst J;subst E;exact .d _ _ (.bool _)|j+2=>simp at J)⟩
end Go.iA
