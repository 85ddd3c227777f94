/- fault.Code, fault.At, castingslaw13.told -/
import Derived.Test.YtlpkdlopdccmmaaGreatDoorYS25
import Derived.Test.YtlpkdlopdccmmaaGreatDoorYS27
namespace Go.Abs
set_option linter.unusedSimpArgs false
set_option linter.unusedVariables false
open Go Go.Proofs Go.RowKit Tryz
set_option maxRecDepth 100000
set_option maxHeartbeats 1000000
structure Kept (t:Nat)(w w':World):Prop where
 heap:∀ b,b < w.heap.size→b≠t→w'.heap[b]? = w.heap[b]?
 os:w'.os=w.os
 tape:w'.tape=w.tape
 output:w'.output=w.output
 size:w.heap.size≤w'.heap.size
theorem Kept.refl (t:Nat)(w:World):Kept t w w:=⟨fun _ _ _=>rfl,rfl,rfl,rfl,Nat.le_refl _⟩
theorem Kept.alloc {t:Nat} {w w':World} (h:Kept t w w')(o:Obj):Kept t w (w'.alloc o) :=
 ⟨fun b hb hn=>by rw [RowKit.Below.heap_alloc _ _ b (Nat.lt_of_lt_of_le hb h.size)];exact h.heap b hb hn,h.os,h.tape,h.output,by have:=h.size;simp [-World.alloc_eq,World.alloc];omega⟩
theorem Kept.setRow {t:Nat} {w w':World} (h:Kept t w w')(cs:Array Value):Kept t w (w'.setRow t cs) :=
 ⟨fun b hb hn=>by
  have:(w'.setRow t cs).heap[b]? = w'.heap[b]?:=by simp [World.setRow,Array.getElem?_modify,Ne.symm hn]
  rw [this];exact h.heap b hb hn,h.os,h.tape,h.output,by have:=h.size;simp [World.setRow];omega⟩
theorem Kept.wC (P:TypeId)(t:Nat)(w:World):Kept t w (As.wC P t w):=by
 unfold As.wC As.wB As.wA
 exact (((Kept.refl t w).alloc _).alloc _).alloc _
theorem setRow_cell (w:World)(t:Nat)(cs old:Array Value)(ty:TypeId)(j:Nat)(v:Value)(h:w.heap[t]? = some (.cells old ty (0,0)))(hv:cs[j]? = some v):(w.setRow t cs).cell? ⟨t,j,none⟩=some v:=by
 have:=setRow_heap w t old cs ty (0,0) h
 simp [World.cell?,this,hv]
theorem code_as (e f:Int)(t:Nat)(old:Array Value)(ty:TypeId)(w:World)(hg:w.cell? ⟨0,0,none⟩=some (As.ityp 37))(hlt:0 < w.heap.size)(ht:w.heap[t]? = some (.cells old ty (0,0)))(ho:old.size=1) :
  Calls prog 65 #[.iface 105 (.agg #[.int .i64 e,.int .i64 f]),.iface 111 (.pointer (some ⟨t,0,none⟩))] w fun ev w'=>ev=.returned (.bool true)∧w'.cell? ⟨t,0,none⟩=some (.int .i64 e)∧Kept t w w':=by
 have htl:t < w.heap.size:=(Array.getElem?_eq_some_iff.1 ht).1
 refine (As.as_code e f t old ty w hg hlt ht ho).mono ?_
 rintro ev w' ⟨rfl,rfl⟩
 have hk:=((Kept.wC 111 t w).alloc (.cells #[.int .i64 e,.int .i64 f] 105)).alloc (.cells #[.int .i64 e] 60)
 refine⟨rfl,setRow_cell _ t _ old ty 0 _ ?_ rfl,hk.setRow _⟩
 rw [RowKit.Below.heap_alloc _ _ t (by simp [-World.alloc_eq,World.alloc,As.size_wC];omega),RowKit.Below.heap_alloc _ _ t (by rw [As.size_wC];omega),As.heap_wC _ _ _ _ htl];exact ht
theorem fault_as (e f:Int)(t:Nat)(old:Array Value)(ty:TypeId)(w:World)(hg:w.cell? ⟨0,0,none⟩=some (As.ityp 37))(hlt:0 < w.heap.size)(ht:w.heap[t]? = some (.cells old ty (0,0)))(ho:old.size=2) :
  Calls prog 65 #[.iface 105 (.agg #[.int .i64 e,.int .i64 f]),.iface 112 (.pointer (some ⟨t,0,none⟩))] w fun ev w'=>ev=.returned (.bool true)∧w'.cell? ⟨t,1,none⟩=some (.int .i64 f)∧Kept t w w':=by
 have htl:t < w.heap.size:=(Array.getElem?_eq_some_iff.1 ht).1
 refine (As.as_fault e f t old ty w hg hlt ht ho).mono ?_
 rintro ev w' ⟨rfl,rfl⟩
 have hk:=(Kept.wC 112 t w).alloc (.cells #[.int .i64 e,.int .i64 f] 105)
 refine⟨rfl,setRow_cell _ t _ old ty 1 _ ?_ rfl,hk.setRow _⟩
 rw [RowKit.Below.heap_alloc _ _ t (by rw [As.size_wC];omega),As.heap_wC _ _ _ _ htl];exact ht
theorem Kept.after {w w':World} {o:Obj} (h:Kept w.heap.size (w.alloc o) w'):Kept w.heap.size w w' :=
 ⟨fun b hb hn=>by rw [h.heap b (by simp [-World.alloc_eq,World.alloc];omega) hn,RowKit.Below.heap_alloc _ _ b hb],h.os,h.tape,h.output,by have:=h.size;simp [-World.alloc_eq,World.alloc] at this;omega⟩
theorem code_calls (e f:Int)(w:World)(hg:w.cell? ⟨0,0,none⟩=some (As.ityp 37))(hlt:0 < w.heap.size) :
  Calls prog 26 #[.iface 105 (.agg #[.int .i64 e,.int .i64 f])] w fun ev w'=>ev=.returned (.tuple #[.int .i64 e,.bool true])∧Kept w.heap.size w w':=by
 have hc:=code_as e f w.heap.size #[.int .i64 0] 60 (w.alloc (.cells #[.int .i64 0] 60)) (by rw [World.cell?_alloc_lt _ _ ⟨0,0,none⟩ hlt];exact hg) (by simp [-World.alloc_eq,World.alloc] <;> omega) (by simp [-World.alloc_eq,World.alloc]) rfl
 go_enter func26,ntmps26
 go_wp2_with (go_at_call 65;refine hc.mono ?_;rintro ev w' ⟨rfl,hcell,hkept⟩)
 go_ret2
 exact⟨rfl,hkept.after⟩
theorem at_calls (e f:Int)(w:World)(hg:w.cell? ⟨0,0,none⟩=some (As.ityp 37))(hlt:0 < w.heap.size) :
  Calls prog 27 #[.iface 105 (.agg #[.int .i64 e,.int .i64 f])] w fun ev w'=>ev=.returned (.tuple #[.int .i64 f,.bool true])∧Kept w.heap.size w w':=by
 have hc:=fault_as e f w.heap.size #[.int .i64 0,.int .i64 0] 105 (w.alloc (.cells #[.int .i64 0,.int .i64 0] 105)) (by rw [World.cell?_alloc_lt _ _ ⟨0,0,none⟩ hlt];exact hg) (by simp [-World.alloc_eq,World.alloc] <;> omega) (by simp [-World.alloc_eq,World.alloc]) rfl
 go_enter func27,ntmps27
 go_wp2_with (go_at_call 65;refine hc.mono ?_;rintro ev w' ⟨rfl,hcell,hkept⟩)
 go_ret2
 exact⟨rfl,hkept.after⟩
theorem errD_val {S:Nat→Prop} {w:World} {c q:Int} {v:Value} (h:RepC S w (errD c (some q)) v):v=.iface 105 (.agg #[.int .i64 c,.int .i64 q]):=by
 unfold errD at h
 cases h with
 | iface _ _ u hu =>
  cases hu with
  | agg _ vs h1 ho h2 =>
   match vs,h1,h2 with
   | [a,b],_,h2 =>
    have e1:=h2 0 _ _ rfl rfl
    have e2:=h2 1 _ _ rfl rfl
    cases e1;cases e2;rfl
theorem err_cell {C:Ctx} {S:Nat→Prop} {w:World} {β:Names} {bx:Boxes} (h:Inv C S w β bx):w.cell? ⟨0,0,none⟩=some (As.ityp 37)∧0 < w.heap.size:=by
 obtain⟨hs,ty,fr,h1⟩:=h.tab 0 errTy (.inr (.inl ⟨rfl,rfl,trivial⟩))
 exact⟨by simp [World.cell?,h1,errTy],(Array.getElem?_eq_some_iff.1 h1).1⟩
theorem kept_inv {C:Ctx} {β:Names} {w':World} (hi:Inv C C.S0 C.w0 β [])(hk:Kept C.w0.heap.size C.w0 w'):Inv C C.S0 w' β [] :=
 (hi.grow (fun _ h=>h) (fun _ h=>.inl h) (fun b hb=>Nat.lt_of_lt_of_le (hi.Slt b hb) hk.size) (fun b hb=>hk.heap b hb (by omega)) hk.os hk.tape hk.output hk.size).1
theorem ok_faultCode (c q:Int):CallOK prog 26 [.d (errD c (some q))] (.tuple [intV c,boolV true]):=by
 refine⟨(Enters.of func26 rfl (by decide)),fun C β vs hi hv=>?_⟩
 obtain⟨v,hv1,hv2⟩:=hv.get (j:=0) (c:=.d (errD c (some q))) rfl
 have hvs:vs=[.iface 105 (.agg #[.int .i64 c,.int .i64 q])]:=by
  have hl:=hv.1
  match vs,hl with
  | [u],_=>simp only [List.getElem?_cons_zero,Option.some.injEq] at hv1;subst hv1;rw [errD_val hv2.inv_d]
 subst hvs
 obtain⟨g1,g2⟩:=err_cell hi
 refine (code_calls c q C.w0 g1 g2).mono ?_
 rintro e w' ⟨rfl,hk⟩
 exact⟨_,C.S0,β,rfl,kept_inv hi hk,.tuple _ [.int .i64 c,.bool true] rfl (by intro j x v hx hv;match j with
  | 0=>simp at hx hv;subst hx;subst hv;exact .d _ _ (.int _ _)
  | 1=>simp at hx hv;subst hx;subst hv;exact .d _ _ (.bool _)
  | j+2=>simp at hx)⟩
theorem ok_faultAt (c q:Int):CallOK prog 27 [.d (errD c (some q))] (.tuple [intV q,boolV true]):=by
 refine⟨(Enters.of func27 rfl (by decide)),fun C β vs hi hv=>?_⟩
 obtain⟨v,hv1,hv2⟩:=hv.get (j:=0) (c:=.d (errD c (some q))) rfl
 have hvs:vs=[.iface 105 (.agg #[.int .i64 c,.int .i64 q])]:=by
  have hl:=hv.1
  match vs,hl with
  | [u],_=>simp only [List.getElem?_cons_zero,Option.some.injEq] at hv1;subst hv1;rw [errD_val hv2.inv_d]
 subst hvs
 obtain⟨g1,g2⟩:=err_cell hi
 refine (at_calls c q C.w0 g1 g2).mono ?_
 rintro e w' ⟨rfl,hk⟩
 exact⟨_,C.S0,β,rfl,kept_inv hi hk,.tuple _ [.int .i64 q,.bool true] rfl (by intro j x v hx hv;match j with
  | 0=>simp at hx hv;subst hx;subst hv;exact .d _ _ (.int _ _)
  | 1=>simp at hx hv;subst hx;subst hv;exact .d _ _ (.bool _)
  | j+2=>simp at hx)⟩
end Go.Abs
