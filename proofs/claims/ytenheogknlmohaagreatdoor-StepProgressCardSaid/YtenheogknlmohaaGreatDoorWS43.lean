/- step: one step of an expression -/
import Derived.Test.YtenheogknlmohaaGreatDoorWS38
import Derived.Test.YtenheogknlmohaaGreatDoorWAb10
import Derived.Test.YtenheogknlmohaaGreatDoorWT02
namespace Go.Abs
set_option linter.unusedSimpArgs false
set_option linter.unusedVariables false
open Go Go.Proofs
set_option maxRecDepth 100000
set_option maxHeartbeats 1000000
def redexE (p:Prog)(e:Ex):Ex × Int:=if e.kind=3 then (e,2) else match e.kids[0]? with
 | none=>(e,4)
 | some v=>if e.kind=2 then callE p e v else if e.kind=4 then selE p e v else if e.kind=5 then asrtE p e v else (e,4)
mutual
def stepE (p:Prog):Ex→Ex × Int
 | .mk k n t a ks q=>match stepL p ks with
  | some (ks',o)=>if o=1 then (.mk k n t a ks' q,1) else (.mk k n t a ks q,o)
  | none=>redexE p (.mk k n t a ks q)
def stepL (p:Prog):List Ex→Option (List Ex × Int)
 | []=>none
 | k::ks=>if isVal k=true then (stepL p ks).map fun r=>(k::r.1,r.2) else some ((stepE p k).1::ks,(stepE p k).2)
end
theorem stepE_eq (p:Prog)(e:Ex):stepE p e=match stepL p e.kids with
  | some (ks',o)=>if o=1 then (e.kidded ks',1) else (e,o)
  | none=>redexE p e:=by
 cases e with | mk k n t a ks q=>rw [stepE];rfl
theorem idxF_cons {α:Type} (q:α→Bool)(x:α)(l:List α):idxF q (x::l)=if q x=true then 0 else if idxF q l < 0 then -1 else idxF q l+1:=by
 unfold idxF
 rw [List.findIdx?_cons]
 cases q x with
 | true=>rfl
 | false =>
  simp only [Bool.false_eq_true,if_false]
  cases l.findIdx? q with
  | none=>rfl
  | some i =>
   simp only [Option.map_some]
   rw [if_neg (by omega)];omega
theorem stepL_cases (p:Prog):∀ l:List Ex,(idxF (fun k=>!isVal k) l = -1∧stepL p l=none)∨∃ (i:Nat)(k:Ex),idxF (fun k=>!isVal k) l=i∧l[i]? = some k∧isVal k=false∧(∀ j x,j < i→l[j]? = some x→isVal x=true)∧stepL p l=some (l.set i (stepE p k).1,(stepE p k).2)
 | []=>.inl ⟨rfl,by rw [stepL]⟩
 | x::l=>by
  rw [idxF_cons,stepL]
  cases hx:isVal x with
  | false=>exact .inr ⟨0,x,by simp,rfl,hx,fun j y hj=>by omega,by simp⟩
  | true =>
   simp only [Bool.not_true,Bool.false_eq_true,if_false,if_true]
   rcases stepL_cases p l with ⟨h1,h2⟩ | ⟨i,k,h1,h2,h3,h4,h5⟩
   ·exact .inl ⟨by rw [h1];rfl,by rw [h2];rfl⟩
   ·refine .inr ⟨i+1,k,by rw [h1,if_neg (by omega)];omega,by simpa using h2,h3,fun j y hj hy=>?_,by rw [h5];rfl⟩
    match j,hy with
    | 0,hy=>simp only [List.getElem?_cons_zero,Option.some.injEq] at hy;rw [← hy];exact hx
    | j+1,hy=>exact h4 j y (by omega) (by simpa using hy)
theorem exR_set (l:List Ex)(i:Nat)(e:Ex):(exR l).set i (exC e)=exR (l.set i e):=by
 rw [exR_map,exR_map,List.map_set]
theorem intKey (n:Int)(h:(Lit.int .i64 n).wf=true):KeyAt Tryz.prog 3 (.int .i64 n):=by
 have hu:Tryz.prog.underlying 3=some (.int .i64):=TF3.2.2.2.2.1
 exact⟨rfl,by simp [D.kv,D.lit,Lit.value,Value.formed,hu],by simp [D.kv,D.lit,D.lits,Lit.value,Value.cells,Program.keyLits,hu,h]⟩
def ruleD (p:Prog)(f:FuncId):D:=.fn f [.agg [.ptr (tabC p)]]
def rulesD (p:Prog):List (D × D):=[(.int .i64 2,ruleD p 98),(.int .i64 4,ruleD p 99),(.int .i64 5,ruleD p 100)]
abbrev q1lx:List Nat:=[0,1,2,3,4,5,6,7,8,9,10,11,12,16,28,34,48,50,72]
theorem ok_mstep (p:Prog)(h:p.Sm)(e:Ex):e.Sm→CallOK Tryz.prog 54 [maV p,exV e] (resV (stepE p e)):=by
 induction e using Ex.induct with
 | h e ih =>
 intro he
 have hfi:=ok_first e he
 have hkl:=he.kids.1
 rw [stepE_eq]
 rcases stepL_cases p e.kids with ⟨h1,h2⟩ | ⟨i,k,h1,h2,h3,h4,h5⟩
 ·have h1':firstK1 e = -1:=h1
  rw [h1'] at hfi
  rw [h2]
  simp only
  (refine CallOK.of_body Tryz.func54 rfl (by decide) (by rw [Tryz.ntmps54];simp) ?_;rw [Tryz.ntmps54])
  refine sR q1lx ?_
  refine AWp.seqK fun K1 hK1=>?_
  (refine sQ q1lx fun K hK=>?_;refine ev ?_;refine⟨_,.inl ⟨_,rfl,hfi,rfl⟩,?_⟩;(try refine ev ?_);apply hK;clear hK K)
  refine sR q1lx ?_
  refine AWp.condF rfl (AWp.skip (hK1 _ _ ?_))
  clear hK1 K1
  unfold redexE
  by_cases hk3:e.kind=3
  ·rw [if_pos hk3]
   have hx:exV e=.agg [.d (.int .i64 3),.d (.str e.name),.d (.str e.type.name),.d (.slice (tyR e.type.args)),.d (.int .i64 e.type.pos),.d (.slice (tyR e.targs)),.d (.slice (exR e.kids)),.d (.int .i64 e.pos)]:=by rw [← hk3]
   have hres:resV (e,2)=.tuple [.agg [.d (.int .i64 3),.d (.str e.name),.d (.str e.type.name),.d (.slice (tyR e.type.args)),.d (.int .i64 e.type.pos),.d (.slice (tyR e.targs)),.d (.slice (exR e.kids)),.d (.int .i64 e.pos)],intV 2]:=by rw [← hx]
   rw [hres]
   refine AWp.weaken (sl':=[(2,.box 2 0),(3,.box 3 0),(4,.box 4 0)]) (bx':=[(2,.cells [.dptr (tabC p) 0]),(3,.cells [.d (.int .i64 3),.d (.str e.name),.d (.str e.type.name),.d (.slice (tyR e.type.args)),.d (.int .i64 e.type.pos),.d (.slice (tyR e.targs)),.d (.slice (exR e.kids)),.d (.int .i64 e.pos)]),(4,.cells [.d (.int .i64 0),.d (.str []),.d (.str []),.d .nil,.d (.int .i64 0),.d .nil,.d .nil,.d (.int .i64 0)])])
    ⟨.inr (.inl rfl),.inr (.inl rfl),.inr (.inl rfl),trivial⟩ (by simp [ble,bget,hk3]) ?_
   refine AWp.seqK fun K1 hK1=>?_
   refine sR q1lx ?_
   refine AWp.takeIfK rfl ?_
   refine sR q1lx ?_
   exact AWp.ret ⟨_,by rw [Tryz.results54];rfl,rfl⟩
  ·rw [if_neg hk3]
   refine AWp.seqK fun K1 hK1=>?_
   (refine sQ q1lx fun K hK=>?_;refine ev1 hk3 ?_;apply hK;clear hK K)
   refine AWp.skipIfK rfl hK1 ?_
   clear hK1 K1
   refine AWp.weaken (sl':=[(2,.box 2 0),(3,.box 3 0),(4,.box 4 0)]) (bx':=[(2,.cells [.dptr (tabC p) 0]),(3,.cells (exS e)),(4,.cells [.d (.int .i64 0),.d (.str []),.d (.str []),.d .nil,.d (.int .i64 0),.d .nil,.d .nil,.d (.int .i64 0)])])
    ⟨.inr (.inl rfl),.inr (.inl rfl),.inr (.inl rfl),trivial⟩ ⟨rfl,rfl,rfl,trivial⟩ ?_
   have hT1:tagg Tryz.prog 95=some true:=by kernel_rfl
   have hT2:tsize Tryz.prog 95=some 1:=by kernel_rfl
   have hT3:Tryz.prog.underlying 146=some (.map 3 96):=by kernel_rfl
   have hT4:Tryz.prog.underlying 3=some (.int .i64):=TF3.2.2.2.2.1
   refine AWp.seq (AWp.region [2,3,4,10] [2,3,4,50] (by decide +kernel) ?_)
   refine⟨true,rfl,by simp [dstOK],fun _=>⟨_,_,_,opT_makeMap (k:=50) (by decide) rfl,?_⟩,fun h=>by cases h⟩
   refine⟨true,rfl,by simp [dstOK],fun _=>⟨_,_,_,opT_loadBoxAgg (k:=2) (off:=0) (n:=1) (cs:=[.dptr (tabC p) 0]) rfl rfl (by simp [bpurge,berase];rfl) hT1 hT2 (Nat.le_refl 1) rfl,?_⟩,fun h=>by cases h⟩
   refine⟨true,rfl,by simp [dstOK],fun _=>⟨_,_,_,opT_bound rfl rfl,?_⟩,fun h=>by cases h⟩
   refine⟨true,rfl,by simp [dstOK],fun _=>⟨_,_,_,opT_insertI (k:=50) (kn:=2) (kvs:=[]) rfl rfl (by simp [bpurge,berase]) hT3 hT4 rfl rfl (by simp) rfl,?_⟩,fun h=>by cases h⟩
   refine⟨true,rfl,by simp [dstOK],fun _=>⟨_,_,_,opT_loadBoxAgg (k:=2) (off:=0) (n:=1) (cs:=[.dptr (tabC p) 0]) rfl rfl (by simp [bpurge,berase];rfl) hT1 hT2 (Nat.le_refl 1) rfl,?_⟩,fun h=>by cases h⟩
   refine⟨true,rfl,by simp [dstOK],fun _=>⟨_,_,_,opT_bound rfl rfl,?_⟩,fun h=>by cases h⟩
   refine⟨true,rfl,by simp [dstOK],fun _=>⟨_,_,_,opT_insertI (k:=50) (kn:=4) (kvs:=[(.int .i64 2,ruleD p 98)]) rfl rfl (by simp [bpurge,berase,ruleD]) hT3 hT4 (by simp [kfind,D.lits,D.lit]) rfl (by intro kv hkv;rw [List.mem_singleton.1 hkv];exact intKey 2 (by decide)) rfl,?_⟩,fun h=>by cases h⟩
   refine⟨true,rfl,by simp [dstOK],fun _=>⟨_,_,_,opT_loadBoxAgg (k:=2) (off:=0) (n:=1) (cs:=[.dptr (tabC p) 0]) rfl rfl (by simp [bpurge,berase];rfl) hT1 hT2 (Nat.le_refl 1) rfl,?_⟩,fun h=>by cases h⟩
   refine⟨true,rfl,by simp [dstOK],fun _=>⟨_,_,_,opT_bound rfl rfl,?_⟩,fun h=>by cases h⟩
   refine⟨true,rfl,by simp [dstOK],fun _=>⟨_,_,_,opT_insertI (k:=50) (kn:=5) (kvs:=[(.int .i64 2,ruleD p 98),(.int .i64 4,ruleD p 99)]) rfl rfl (by simp [bpurge,berase,ruleD]) hT3 hT4 (by simp [kfind,D.lits,D.lit]) rfl (by intro kv hkv;simp only [List.mem_cons,List.not_mem_nil,or_false] at hkv;rcases hkv with rfl | rfl;exact intKey 2 (by decide);exact intKey 4 (by decide)) rfl,?_⟩,fun h=>by cases h⟩
   refine⟨true,rfl,by simp [dstOK],fun _=>⟨_,_,_,opT_move rfl,?_⟩,fun h=>by cases h⟩
   refine⟨true,rfl,by simp [dstOK],fun _=>⟨_,_,_,opT_assign rfl,?_⟩,fun h=>by cases h⟩
   refine AWp.weaken (sl':=[(2,.box 2 0),(3,.box 3 0),(4,.box 4 0),(10,.mp 50)]) (bx':=[(2,.cells [.dptr (tabC p) 0]),(3,.cells (exS e)),(4,.cells [.d (.int .i64 0),.d (.str []),.d (.str []),.d .nil,.d (.int .i64 0),.d .nil,.d .nil,.d (.int .i64 0)]),(50,.map (rulesD p))])
    ⟨.inr (.inl rfl),.inr (.inl rfl),.inr (.inl rfl),.inr (.inl rfl),trivial⟩ ⟨rfl,rfl,rfl,rfl,trivial⟩ ?_
   have hz:zone Tryz.prog 96=some .undef:=by kernel_rfl
   have hF0:foff Tryz.prog 28 0=some 0:=by kernel_rfl
   have hallK:∀ kv,kv∈rulesD p→KeyAt Tryz.prog 3 kv.1:=by
    intro kv hkv
    simp only [rulesD,List.mem_cons,List.not_mem_nil,or_false] at hkv
    rcases hkv with rfl | rfl | rfl
    ·exact intKey 2 (by decide)
    ·exact intKey 4 (by decide)
    ·exact intKey 5 (by decide)
   obtain⟨v1,b,hlook,hcase⟩:∃ (v1:SV) (b:Bool),lookR true (.int .i64 e.kind) (rulesD p) .undef=.tuple [v1,boolV b] ∧
     ((b=false∧e.kind≠2∧e.kind≠4∧e.kind≠5)∨(b=true∧((e.kind=2∧v1=.d (ruleD p 98))∨(e.kind=4∧v1=.d (ruleD p 99))∨(e.kind=5∧v1=.d (ruleD p 100))))):=by
    by_cases k2:e.kind=2
    ·exact⟨_,true,by simp [lookR,lookV,rulesD,kfind,D.lits,D.lit,ofD,ruleD,k2],.inr ⟨rfl,.inl ⟨k2,rfl⟩⟩⟩
    ·by_cases k4:e.kind=4
     ·exact⟨_,true,by simp [lookR,lookV,rulesD,kfind,D.lits,D.lit,ofD,ruleD,k4],.inr ⟨rfl,.inr (.inl ⟨k4,rfl⟩)⟩⟩
     ·by_cases k5:e.kind=5
      ·exact⟨_,true,by simp [lookR,lookV,rulesD,kfind,D.lits,D.lit,ofD,ruleD,k5],.inr ⟨rfl,.inr (.inr ⟨k5,rfl⟩)⟩⟩
      ·exact⟨.undef,false,by simp [lookR,lookV,rulesD,kfind,D.lits,D.lit,k2,k4,k5],.inl ⟨rfl,k2,k4,k5⟩⟩
   refine AWp.seq (AWp.region [2,3,4,11,12] [2,3,4] (by decide +kernel) ?_)
   refine⟨true,rfl,by simp [dstOK],fun _=>⟨_,_,_,opT_move rfl,?_⟩,fun h=>by cases h⟩
   refine⟨true,rfl,by simp [dstOK],fun _=>⟨_,_,_,opT_fieldBox (k:=3) (off:=0) rfl rfl hF0,?_⟩,fun h=>by cases h⟩
   refine⟨true,rfl,by simp [dstOK],fun _=>⟨_,_,_,opT_loadBox (k:=3) (off:=0) (cs:=exS e) (c:=.d (.int .i64 e.kind)) rfl rfl (by simp) TF3.1 rfl,?_⟩,fun h=>by cases h⟩
   refine⟨true,rfl,by simp [dstOK],fun _=>⟨_,_,_,opT_lookupI (kn:=e.kind) (kvs:=rulesD p) (z:=.undef) rfl (.mp 50 _ (by simp)) hT3 hT4 rfl hallK hz,?_⟩,fun h=>by cases h⟩
   rw [hlook]
   refine⟨true,rfl,by simp [dstOK],fun _=>⟨_,_,_,opT_move rfl,?_⟩,fun h=>by cases h⟩
   refine⟨true,rfl,by simp [dstOK],fun _=>⟨_,_,_,opT_extract (xs:=[v1,boolV b]) rfl rfl rfl,?_⟩,fun h=>by cases h⟩
   refine⟨true,rfl,by simp [dstOK],fun _=>⟨_,_,_,opT_extract (xs:=[v1,boolV b]) rfl rfl rfl,?_⟩,fun h=>by cases h⟩
   refine⟨true,rfl,by simp [dstOK],fun _=>⟨_,_,_,opT_assign rfl,?_⟩,fun h=>by cases h⟩
   refine⟨true,rfl,by simp [dstOK],fun _=>⟨_,_,_,opT_assign rfl,?_⟩,fun h=>by cases h⟩
   refine AWp.weaken (sl':=[(2,.box 2 0),(3,.box 3 0),(4,.box 4 0),(11,v1),(12,boolV b)]) (bx':=[(2,.cells [.dptr (tabC p) 0]),(3,.cells (exS e)),(4,.cells [.d (.int .i64 0),.d (.str []),.d (.str []),.d .nil,.d (.int .i64 0),.d .nil,.d .nil,.d (.int .i64 0)])])
    ⟨.inr (.inl rfl),.inr (.inl rfl),.inr (.inl rfl),.inr (.inl rfl),.inr (.inl rfl),trivial⟩ ⟨rfl,rfl,rfl,trivial⟩ ?_
   cases hk0:e.kids[0]? with
   | none =>
    have hl0:(e.kids.length:Int)=0:=by
     have:=List.getElem?_eq_none_iff.1 hk0
     omega
    simp only
    cases b
    ·refine AWp.seqK fun K1 hK1=>?_
     refine sR q1lx ?_
     refine AWp.takeIfK rfl ?_
     refine sR q1lx ?_
     exact AWp.ret ⟨_,by rw [Tryz.results54];rfl,rfl⟩
    ·refine AWp.seqK fun K1 hK1=>?_
     (refine sQ q1lx fun K hK=>?_;refine ev1 hl0 ?_;apply hK;clear hK K)
     refine AWp.takeIfK rfl ?_
     refine sR q1lx ?_
     exact AWp.ret ⟨_,by rw [Tryz.results54];rfl,rfl⟩
   | some v =>
    have hl0:¬ (e.kids.length:Int)=0:=by have:=(List.getElem?_eq_some_iff.1 hk0).1;omega
    simp only
    rcases hcase with ⟨rfl,k2,k4,k5⟩ | ⟨rfl,hcase⟩
    ·rw [if_neg k2,if_neg k4,if_neg k5]
     refine AWp.seqK fun K1 hK1=>?_
     refine sR q1lx ?_
     refine AWp.takeIfK rfl ?_
     refine sR q1lx ?_
     exact AWp.ret ⟨_,by rw [Tryz.results54];rfl,rfl⟩
    ·rcases hcase with hv1 | hv1 | hv1
     ·obtain⟨hk,rfl⟩:=hv1
      have hc:=ok_call p h e v he hk0
      rw [if_pos hk]
      generalize callE p e v=r at *
      obtain⟨a,o⟩:=r
      refine AWp.seqK fun K1 hK1=>?_
      (refine sQ q1lx fun K hK=>?_;refine ev1 hl0 ?_;apply hK;clear hK K)
      refine AWp.skipIfK rfl hK1 ?_
      (refine AWp.seqR q1lx [800076] (by decide +kernel) fun K hK=>?_;refine ev ?_;refine⟨_,_,_,fun o ho _=>opQ_callBound (cells:=tabC p) (args:=[.tmp 75]) rfl rfl hc rfl o ho,?_⟩;(try refine ev ?_);apply hK;clear hK K)
      exact AWp.ret ⟨_,by rw [Tryz.results54];rfl,rfl⟩
     ·obtain⟨hk,rfl⟩:=hv1
      have hc:=ok_selection p h e v he hk0
      rw [if_neg (by omega),if_pos hk]
      generalize selE p e v=r at *
      obtain⟨a,o⟩:=r
      refine AWp.seqK fun K1 hK1=>?_
      (refine sQ q1lx fun K hK=>?_;refine ev1 hl0 ?_;apply hK;clear hK K)
      refine AWp.skipIfK rfl hK1 ?_
      (refine AWp.seqR q1lx [800076] (by decide +kernel) fun K hK=>?_;refine ev ?_;refine⟨_,_,_,fun o ho _=>opQ_callBound (cells:=tabC p) (args:=[.tmp 75]) rfl rfl hc rfl o ho,?_⟩;(try refine ev ?_);apply hK;clear hK K)
      exact AWp.ret ⟨_,by rw [Tryz.results54];rfl,rfl⟩
     ·obtain⟨hk,rfl⟩:=hv1
      have hc:=ok_assertion p h e v he hk0
      rw [if_neg (by omega),if_neg (by omega),if_pos hk]
      generalize asrtE p e v=r at *
      obtain⟨a,o⟩:=r
      refine AWp.seqK fun K1 hK1=>?_
      (refine sQ q1lx fun K hK=>?_;refine ev1 hl0 ?_;apply hK;clear hK K)
      refine AWp.skipIfK rfl hK1 ?_
      (refine AWp.seqR q1lx [800076] (by decide +kernel) fun K hK=>?_;refine ev ?_;refine⟨_,_,_,fun o ho _=>opQ_callBound (cells:=tabC p) (args:=[.tmp 75]) rfl rfl hc rfl o ho,?_⟩;(try refine ev ?_);apply hK;clear hK K)
      exact AWp.ret ⟨_,by rw [Tryz.results54];rfl,rfl⟩
 ·have h1':firstK1 e=i:=h1
  rw [h1'] at hfi
  rw [h5]
  simp only
  have hkm:=List.mem_of_getElem? h2
  have hik:=ih k hkm (he.kids.2 k hkm)
  have hil:=(List.getElem?_eq_some_iff.1 h2).1
  have hi0:(i:Int) ≥ 0:=by omega
  generalize stepE p k=r at *
  obtain⟨k',o⟩:=r
  simp only at hik ⊢
  (refine CallOK.of_body Tryz.func54 rfl (by decide) (by rw [Tryz.ntmps54];simp) ?_;rw [Tryz.ntmps54])
  refine sR q1lx ?_
  refine AWp.seqK fun K1 hK1=>?_
  (refine sQ q1lx fun K hK=>?_;refine ev ?_;refine⟨_,.inl ⟨_,rfl,hfi,rfl⟩,?_⟩;(try refine ev ?_);apply hK;clear hK K)
  (refine sQ q1lx fun K hK=>?_;refine ev1 hi0 ?_;apply hK;clear hK K)
  refine AWp.condT rfl ?_
  (refine AWp.seqDC [0,1,2,3,4,5,6,7,8,9,10,11,12,16,28,34,48,50,72] [7] 13 7 7 10 [10,11] [11] (.box 7 0) rfl mixed (by decide +kernel) (by decide +kernel) (by decide +kernel) (by decide) ⟨10,by decide,by decide,by decide,rfl⟩ (by simp) rfl fun K hK=>?_;refine ev ?_;refine⟨by omega,_,exR_get h2,rfl,?_⟩;(try refine ev ?_);refine⟨_,.inl ⟨_,rfl,hik,rfl⟩,?_⟩;(try refine ev ?_);refine chV_step0 (dst:=some 7) (e:=11) (i1:=11) (f:=(.box 7 0)) (ps:=[7]) rfl rfl rfl rfl rfl rfl ?_;(try refine ev ?_);refine chK_ok rfl (by simp) ?_;(try refine ev ?_);refine chV_step1 (dst:=none) (e:=13) (i1:=12) (f:=.tuple []) (ps:=[]) rfl rfl rfl rfl rfl rfl ?_;(try refine ev ?_);refine chK_ok rfl (by simp) ?_;(try refine ev ?_);refine chV_end rfl ?_;(try refine ev ?_);apply hK;clear hK K)
  by_cases ho:o=1
  ·rw [if_pos ho]
   refine AWp.seqK fun K2 hK2=>?_
   (refine sQ q1lx fun K hK=>?_;refine ev1 ho ?_;apply hK;clear hK K)
   refine AWp.skipIfK rfl hK2 ?_
   clear hK2 K2
   (refine AWp.seqR q1lx [34] (by decide +kernel) fun K hK=>?_;refine ev ?_;refine⟨by omega,by omega,by unfold lim sm at *;omega,?_⟩;(try refine ev ?_);apply hK;clear hK K)
   (refine sQ q1lx fun K hK=>?_;refine ev ?_;refine⟨exR_row _,by simp [exR_len],?_⟩;(try refine ev ?_);apply hK;clear hK K)
   refine AWp.weaken (sl':=[(3,.box 3 0),(4,.box 4 0),(6,intV i),(7,.box 7 0),(9,.acc 34)]) (bx':=[(3,.cells (exS e)),(4,.cells [.d (.int .i64 0),.d (.str []),.d (.str []),.d .nil,.d (.int .i64 0),.d .nil,.d .nil,.d (.int .i64 0)]),(7,.cells (exS k')),(34,.rows 8 (exR e.kids))])
    ⟨.inr (.inl rfl),.inr (.inl rfl),.inr (.inl rfl),.inr (.inl rfl),.inr (.inl rfl),trivial⟩ (by simp [ble,bget,exS]) ?_
   (refine sQ q1lx fun K hK=>?_;refine ev ?_;refine⟨by omega,hil,_,exC k',exR_get h2,rfl,Nat.le_refl 8,?_⟩;(try refine ev ?_);apply hK;clear hK K)
   refine AWp.weaken (sl':=[(3,.box 3 0),(4,.box 4 0),(9,.acc 34)]) (bx':=[(3,.cells (exS e)),(4,.cells [.d (.int .i64 0),.d (.str []),.d (.str []),.d .nil,.d (.int .i64 0),.d .nil,.d .nil,.d (.int .i64 0)]),(34,.rows 8 (exR (e.kids.set i k')))])
    ⟨.inr (.inl rfl),.inr (.inl rfl),.inr (.inl rfl),trivial⟩ ⟨rfl,rfl,by rw [← exR_set];rfl,trivial⟩ ?_
   refine AWp.publish 34 rfl (AWp.weaken (sl':=[(3,.box 3 0),(4,.box 4 0),(9,.d (.slice (exR (e.kids.set i k'))))]) (bx':=[(3,.cells (exS e)),(4,.cells [.d (.int .i64 0),.d (.str []),.d (.str []),.d .nil,.d (.int .i64 0),.d .nil,.d .nil,.d (.int .i64 0)])])
    ⟨.inr (.inl rfl),.inr (.inl rfl),.inr (.inl rfl),trivial⟩ ⟨rfl,rfl,trivial⟩ ?_)
   refine sR q1lx ?_
   refine sR q1lx ?_
   exact AWp.ret ⟨_,by rw [Tryz.results54];rfl,rfl⟩
  ·rw [if_neg ho]
   refine AWp.seqK fun K2 hK2=>?_
   (refine sQ q1lx fun K hK=>?_;refine ev1 ho ?_;apply hK;clear hK K)
   refine AWp.takeIfK rfl ?_
   refine sR q1lx ?_
   exact AWp.ret ⟨_,by rw [Tryz.results54];rfl,rfl⟩
end Go.Abs
/- the redex of an expression: step.Redex, castingsref25.Redex; castingsref25.Step, given its redex -/
namespace Go.Abs
set_option linter.unusedSimpArgs false
set_option linter.unusedVariables false
open Go Go.Proofs
set_option maxRecDepth 100000
set_option maxHeartbeats 1000000
mutual
def rdxE:Ex→Ex × Bool
 | .mk k n t a ks q=>match rdxL ks with
  | some r=>r
  | none=>(.mk k n t a ks q,!decide (k=3))
def rdxL:List Ex→Option (Ex × Bool)
 | []=>none
 | k::ks=>if isVal k=true then rdxL ks else some (rdxE k)
end
theorem rdxE_eq (e:Ex):rdxE e=match rdxL e.kids with
  | some r=>r
  | none=>(e,!decide (e.kind=3)):=by
 cases e with | mk k n t a ks q=>rw [rdxE];rfl
theorem isValL_iff:∀ l:List Ex,isValL l=true↔∀ x,x∈l→isVal x=true
 | []=>by simp [isValL]
 | x::l=>by rw [isValL,Bool.and_eq_true,isValL_iff l];simp
theorem rdxL_cases:∀ l:List Ex,(idxF (fun k=>!isVal k) l = -1∧rdxL l=none∧isValL l=true)∨∃ (i:Nat)(k:Ex),idxF (fun k=>!isVal k) l=i∧l[i]? = some k∧isVal k=false∧isValL l=false∧rdxL l=some (rdxE k)
 | []=>.inl ⟨rfl,by rw [rdxL],by rw [isValL]⟩
 | x::l=>by
  rw [idxF_cons,rdxL,isValL]
  cases hx:isVal x with
  | false=>exact .inr ⟨0,x,by simp,rfl,hx,rfl,by simp⟩
  | true =>
   simp only [Bool.not_true,Bool.false_eq_true,if_false,if_true,Bool.true_and]
   rcases rdxL_cases l with ⟨h1,h2,h3⟩ | ⟨i,k,h1,h2,h3,h4,h5⟩
   ·exact .inl ⟨by rw [h1];rfl,h2,h3⟩
   ·exact .inr ⟨i+1,k,by rw [h1,if_neg (by omega)];omega,by simpa using h2,h3,h4,h5⟩
abbrev rdxV (r:Ex × Bool):SV:=.tuple [exV r.1,boolV r.2]
abbrev q1mx:List Nat:=[0,1,2,3,4,6,12]
theorem ok_SRedex (e:Ex):e.Sm→CallOK Tryz.prog 18 [exV e] (rdxV (rdxE e)):=by
 induction e using Ex.induct with
 | h e ih =>
 intro he
 have hv:=ok_Value e
 have hf:=ok_first e he
 have hc:=ok_EClone e he
 rw [rdxE_eq]
 rw [isVal_eq] at hv
 rcases rdxL_cases e.kids with ⟨h1,h2,h3⟩ | ⟨i,k,h1,h2,h3,h4,h5⟩
 ·have h1':firstK1 e = -1:=h1
  rw [h1'] at hf
  rw [h3,Bool.true_and] at hv
  rw [h2]
  simp only
  by_cases hk:e.kind=3
  ·simp only [decide_eq_true hk,Bool.not_true] at *
   (refine CallOK.of_body Tryz.func18 rfl (by decide) (by rw [Tryz.ntmps18];simp) ?_;rw [Tryz.ntmps18])
   refine sR q1mx ?_
   refine AWp.seqK fun K1 hK1=>?_
   (refine sQ q1mx fun K hK=>?_;refine ev ?_;refine⟨_,.inl ⟨_,rfl,hv,rfl⟩,?_⟩;(try refine ev ?_);apply hK;clear hK K)
   refine AWp.takeIfK rfl ?_
   (refine sQ q1mx fun K hK=>?_;refine ev ?_;refine⟨_,.inl ⟨_,rfl,hc,rfl⟩,?_⟩;(try refine ev ?_);apply hK;clear hK K)
   exact AWp.ret ⟨_,by rw [Tryz.results18];rfl,rfl⟩
  ·simp only [decide_eq_false hk,Bool.not_false] at *
   (refine CallOK.of_body Tryz.func18 rfl (by decide) (by rw [Tryz.ntmps18];simp) ?_;rw [Tryz.ntmps18])
   refine sR q1mx ?_
   refine AWp.seqK fun K1 hK1=>?_
   (refine sQ q1mx fun K hK=>?_;refine ev ?_;refine⟨_,.inl ⟨_,rfl,hv,rfl⟩,?_⟩;(try refine ev ?_);apply hK;clear hK K)
   refine AWp.skipIfK rfl hK1 ?_
   clear hK1 K1
   refine AWp.seqK fun K1 hK1=>?_
   (refine sQ q1mx fun K hK=>?_;refine ev ?_;refine⟨_,.inl ⟨_,rfl,hf,rfl⟩,?_⟩;(try refine ev ?_);apply hK;clear hK K)
   refine sR q1mx ?_
   refine AWp.skipIfK rfl hK1 ?_
   (refine sQ q1mx fun K hK=>?_;refine ev ?_;refine⟨_,.inl ⟨_,rfl,hc,rfl⟩,?_⟩;(try refine ev ?_);apply hK;clear hK K)
   exact AWp.ret ⟨_,by rw [Tryz.results18];rfl,rfl⟩
 ·have h1':firstK1 e=i:=h1
  rw [h1'] at hf
  rw [h4,Bool.false_and] at hv
  rw [h5]
  simp only
  have hkm:=List.mem_of_getElem? h2
  have hik:=ih k hkm (he.kids.2 k hkm)
  have hil:=(List.getElem?_eq_some_iff.1 h2).1
  have hi0:(i:Int) ≥ 0:=by omega
  generalize rdxE k=r at *
  obtain⟨k',o⟩:=r
  (refine CallOK.of_body Tryz.func18 rfl (by decide) (by rw [Tryz.ntmps18];simp) ?_;rw [Tryz.ntmps18])
  refine sR q1mx ?_
  refine AWp.seqK fun K1 hK1=>?_
  (refine sQ q1mx fun K hK=>?_;refine ev ?_;refine⟨_,.inl ⟨_,rfl,hv,rfl⟩,?_⟩;(try refine ev ?_);apply hK;clear hK K)
  refine AWp.skipIfK rfl hK1 ?_
  clear hK1 K1
  refine AWp.seqK fun K1 hK1=>?_
  (refine sQ q1mx fun K hK=>?_;refine ev ?_;refine⟨_,.inl ⟨_,rfl,hf,rfl⟩,?_⟩;(try refine ev ?_);apply hK;clear hK K)
  (refine sQ q1mx fun K hK=>?_;refine ev1 hi0 ?_;apply hK;clear hK K)
  refine AWp.takeIfK rfl ?_
  (refine sQ q1mx fun K hK=>?_;refine ev ?_;refine⟨by omega,_,exR_get h2,rfl,?_⟩;(try refine ev ?_);refine⟨_,.inl ⟨_,rfl,hik,rfl⟩,?_⟩;(try refine ev ?_);apply hK;clear hK K)
  exact AWp.ret ⟨_,by rw [Tryz.results18];rfl,rfl⟩
end Go.Abs
/- castingsref25.redex: what an expression becomes all of whose kids are values -/
namespace Go.Abs
set_option linter.unusedSimpArgs false
set_option linter.unusedVariables false
open Go Go.Proofs
set_option maxRecDepth 100000
set_option maxHeartbeats 1000000
end Go.Abs
/- castingsref25.redex: assertions, calls; all of it -/
namespace Go.Abs
set_option linter.unusedSimpArgs false
set_option linter.unusedVariables false
open Go Go.Proofs
set_option maxRecDepth 100000
set_option maxHeartbeats 1000000
end Go.Abs
/- step.Step; the walk of StepMatchesReference, given that awake answers true -/
namespace Go.Abs
set_option linter.unusedSimpArgs false
set_option linter.unusedVariables false
open Go Go.Proofs
set_option maxRecDepth 100000
set_option maxHeartbeats 1000000
theorem ok_Few05 (e:Ex):CallOK Tryz.prog 14 [exV e] (boolV (decide (e.count 0≤250))):=by
 have h:=ok_Count05 e 0 (by decide) (by decide)
 (refine CallOK.of_body Tryz.func14 rfl (by decide) (by rw [Tryz.ntmps14];simp) ?_;rw [Tryz.ntmps14])
 refine sR [0,1,2] ?_
 (refine sQ [0,1,2] fun K hK=>?_;refine ev ?_;refine⟨_,.inl ⟨_,rfl,h,rfl⟩,?_⟩;(try refine ev ?_);apply hK;clear hK K)
 exact AWp.ret ⟨_,by rw [Tryz.results14];rfl,rfl⟩
theorem sameT_refl (t:Ty):sameT t t=true:=(sameT_er t t).2 rfl
theorem sameTL_refl:∀ l:List Ty,sameTL l l=true
 | []=>by rw [sameTL]
 | t::l=>by rw [sameTL,sameT_refl,sameTL_refl l];rfl
theorem sameEL_refl:∀ l:List Ex,(∀ x,x∈l→sameE x x=true)→sameEL l l=true
 | [],_=>by rw [sameEL]
 | t::l,h=>by rw [sameEL,h t (by simp),sameEL_refl l (fun x hx=>h x (by simp [hx]))];rfl
theorem sameE_refl (e:Ex):sameE e e=true:=by
 induction e using Ex.induct with
 | h e ih=>rw [sameE_eq,sameT_refl,sameTL_refl,sameEL_refl _ ih];simp
theorem ok_Step (p:Prog)(h:p.Sm)(e:Ex)(he:e.Sm)(hs:(stepE p e).1.Sm):CallOK Tryz.prog 17 [prV p,exV e] (resV (stepE p e)):=by
 have h1:=ok_New p h
 have h2:=ok_mstep p h e he
 generalize stepE p e=r at *
 obtain⟨x,o⟩:=r
 have h3:=ok_EClone x hs
 (refine CallOK.of_body Tryz.func17 rfl (by decide) (by rw [Tryz.ntmps17];simp) ?_;rw [Tryz.ntmps17])
 refine sR [0,1,2,3,4,5,6,7] ?_
 (refine AWp.seqDC [0,1,2,3,4,5,6,7] [6] 11 6 6 8 [8,9] [9] (.box 6 0) rfl mixed (by decide +kernel) (by decide +kernel) (by decide +kernel) (by decide) ⟨8,by decide,by decide,by decide,rfl⟩ (by simp) rfl fun K hK=>?_;refine ev ?_;refine⟨_,.inl ⟨_,rfl,h1,rfl⟩,?_⟩;(try refine ev ?_);refine⟨_,.inl ⟨_,rfl,h2,rfl⟩,?_⟩;(try refine ev ?_);refine chV_step0 (dst:=some 6) (e:=9) (i1:=9) (f:=(.box 6 0)) (ps:=[6]) rfl rfl rfl rfl rfl rfl ?_;(try refine ev ?_);refine chK_ok rfl (by simp) ?_;(try refine ev ?_);refine chV_step1 (dst:=none) (e:=11) (i1:=10) (f:=.tuple []) (ps:=[]) rfl rfl rfl rfl rfl rfl ?_;(try refine ev ?_);refine chK_ok rfl (by simp) ?_;(try refine ev ?_);refine chV_end rfl ?_;(try refine ev ?_);apply hK;clear hK K)
 (refine sQ [0,1,2,3,4,5,6,7] fun K hK=>?_;refine ev ?_;refine⟨_,.inl ⟨_,rfl,h3,rfl⟩,?_⟩;(try refine ev ?_);apply hK;clear hK K)
 exact AWp.ret ⟨_,by rw [Tryz.results17];rfl,rfl⟩
end Go.Abs
