/- step: one step of an expression -/
import Derived.Test.YtbhbfpjnenekpaaGreatDoorUS38
import Derived.Test.YtbhbfpjnenekpaaGreatDoorUAb16
import Derived.Test.YtbhbfpjnenekpaaGreatDoorUT02
namespace Go.Abs
set_option linter.unusedSimpArgs false
set_option linter.unusedVariables false
open Go Go.Proofs Tryz
set_option maxRecDepth 100000
set_option maxHeartbeats 1000000
def redexE (p:Prog)(e:Ex):Ex × Int:=if e.kind=3 then (e,2) else match e.kids[0]? with
 | none=>(e,4)
 | some v=>if e.kind=2 then callE p e v else if e.kind=4 then selE p e v else if e.kind=5 then asrtE p e v else (e,4)
mutual
def stepE (p:Prog):Ex→Ex × Int
 | .mk k n t a ks q=>match stepL p ks with
  | some (ks',o)=>if o=1 then (.mk k n t a ks' q,1) else (.mk k n t a ks q,o)
  | none=>redexE p (.mk k n t a ks q)
def stepL (p:Prog):List Ex→Option (List Ex × Int)
 | []=>none
 | k::ks=>if isVal k=true then (stepL p ks).map fun r=>(k::r.1,r.2) else some ((stepE p k).1::ks,(stepE p k).2)
end
theorem stepE_eq (p:Prog)(e:Ex):stepE p e=match stepL p e.kids with
  | some (ks',o)=>if o=1 then (e.kidded ks',1) else (e,o)
  | none=>redexE p e:=by
 cases e with | mk k n t a ks q=>rw [stepE];rfl
theorem idxF_cons {α:Type} (q:α→Bool)(x:α)(l:List α):idxF q (x::l)=if q x=true then 0 else if idxF q l < 0 then -1 else idxF q l+1:=by
 unfold idxF
 rw [List.findIdx?_cons]
 cases q x with
 | true=>rfl
 | false =>
  simp only [Bool.false_eq_true,if_false]
  cases l.findIdx? q with
  | none=>rfl
  | some i =>
   simp only [Option.map_some]
   rw [if_neg (by omega)];omega
theorem stepL_cases (p:Prog):∀ l:List Ex,(idxF (fun k=>!isVal k) l = -1∧stepL p l=none)∨∃ (i:Nat)(k:Ex),idxF (fun k=>!isVal k) l=i∧l[i]? = some k∧isVal k=false∧(∀ j x,j < i→l[j]? = some x→isVal x=true)∧stepL p l=some (l.set i (stepE p k).1,(stepE p k).2)
 | []=>.inl ⟨rfl,by rw [stepL]⟩
 | x::l=>by
  rw [idxF_cons,stepL]
  cases hx:isVal x with
  | false=>exact .inr ⟨0,x,by simp,rfl,hx,fun j y hj=>by omega,by simp⟩
  | true =>
   simp only [Bool.not_true,Bool.false_eq_true,if_false,if_true]
   rcases stepL_cases p l with ⟨h1,h2⟩ | ⟨i,k,h1,h2,h3,h4,h5⟩
   ·exact .inl ⟨by rw [h1];rfl,by rw [h2];rfl⟩
   ·refine .inr ⟨i+1,k,by rw [h1,if_neg (by omega)];omega,by simpa using h2,h3,fun j y hj hy=>?_,by rw [h5];rfl⟩
    match j,hy with
    | 0,hy=>simp only [List.getElem?_cons_zero,Option.some.injEq] at hy;rw [← hy];exact hx
    | j+1,hy=>exact h4 j y (by omega) (by simpa using hy)
theorem exR_set (l:List Ex)(i:Nat)(e:Ex):(exR l).set i (exC e)=exR (l.set i e):=by
 rw [exR_map,exR_map,List.map_set]
theorem intKey (n:Int)(h:(Lit.int .i64 n).wf=true):KeyAt prog 3 (.int .i64 n):=by
 have hu:prog.underlying 3=some (.int .i64):=TF3.2.2.2.2.1
 exact⟨rfl,by simp [D.kv,D.lit,Lit.value,Value.formed,hu],by simp [D.kv,D.lit,D.lits,Lit.value,Value.cells,Program.keyLits,hu,h]⟩
def ruleD (p:Prog)(f:FuncId):D:=.fn f [.agg [.ptr (tabC p)]]
def rulesD (p:Prog):List (D × D):=[(.int .i64 2,ruleD p 252),(.int .i64 4,ruleD p 253),(.int .i64 5,ruleD p 254)]
abbrev q1Z:List Nat:=[0,1,2,3,4,5,6,7,8,9,10,11,12,16,28,34,48,50,72]
theorem ok_mstep (p:Prog)(h:p.Sm)(e:Ex):e.Sm→CallOK prog 194 [maV p,exV e] (resV (stepE p e)):=by
 induction e using Ex.induct with
 | h e ih =>
 intro he
 have hfi:=ok_first e he
 have hkl:=he.kids.1
 rw [stepE_eq]
 rcases stepL_cases p e.kids with ⟨h1,h2⟩ | ⟨i,k,h1,h2,h3,h4,h5⟩
 ·have h1':firstK1 e = -1:=h1
  rw [h1'] at hfi
  rw [h2]
  simp only
  refine cB func194 ?_
  refine sR q1Z ?_
  refine kC hfi q1Z fun K1 u1=>?_
  refine sR q1Z ?_
  refine AWp.condF rfl (AWp.skip (u1 _ _ ?_))
  clear u1 K1
  unfold redexE
  by_cases hk3:e.kind=3
  ·rw [if_pos hk3]
   have hx:exV e=.agg [.d (.int .i64 3),.d (.str e.name),.d (.str e.type.name),.d (.slice (tyR e.type.args)),.d (.int .i64 e.type.pos),.d (.slice (tyR e.targs)),.d (.slice (exR e.kids)),.d (.int .i64 e.pos)]:=by rw [← hk3]
   have hres:resV (e,2)=.tuple [.agg [.d (.int .i64 3),.d (.str e.name),.d (.str e.type.name),.d (.slice (tyR e.type.args)),.d (.int .i64 e.type.pos),.d (.slice (tyR e.targs)),.d (.slice (exR e.kids)),.d (.int .i64 e.pos)],intV 2]:=by rw [← hx]
   rw [hres]
   refine AWp.weaken (sl':=[(2,.box 2 0),(3,.box 3 0),(4,.box 4 0)]) (bx':=[(2,.cells [.dptr (tabC p) 0]),(3,.cells [.d (.int .i64 3),.d (.str e.name),.d (.str e.type.name),.d (.slice (tyR e.type.args)),.d (.int .i64 e.type.pos),.d (.slice (tyR e.targs)),.d (.slice (exR e.kids)),.d (.int .i64 e.pos)]),(4,.cells [.d (.int .i64 0),.d (.str []),.d (.str []),.d .nil,.d (.int .i64 0),.d .nil,.d .nil,.d (.int .i64 0)])])
    ⟨.inr (.inl rfl),.inr (.inl rfl),.inr (.inl rfl),trivial⟩ (by simp [ble,bget,hk3]) ?_
   refine kR q1Z fun K1 u1=>?_
   refine tI ?_
   refine sR q1Z ?_
   exact aR
  ·rw [if_neg hk3]
   refine kR1 hk3 q1Z fun K1 u1=>?_
   refine kI u1 ?_
   clear u1 K1
   refine AWp.weaken (sl':=[(2,.box 2 0),(3,.box 3 0),(4,.box 4 0)]) (bx':=[(2,.cells [.dptr (tabC p) 0]),(3,.cells (exS e)),(4,.cells [.d (.int .i64 0),.d (.str []),.d (.str []),.d .nil,.d (.int .i64 0),.d .nil,.d .nil,.d (.int .i64 0)])])
    ⟨.inr (.inl rfl),.inr (.inl rfl),.inr (.inl rfl),trivial⟩ ⟨rfl,rfl,rfl,trivial⟩ ?_
   have hT1:tagg prog 234=some true:=by kernel_rfl
   have hT2:tsize prog 234=some 1:=by kernel_rfl
   obtain⟨ft,hT3,hz⟩:∃ ft,prog.underlying 293=some (.map 3 ft)∧zone prog ft=some (.d .nilfn):=⟨_,rfl,by kernel_rfl⟩
   have hT4:prog.underlying 3=some (.int .i64):=TF3.2.2.2.2.1
   refine AWp.seq (AWp.region [2,3,4,10] [2,3,4,50] (by decide +kernel) ?_)
   refine⟨true,rfl,by simp [dstOK],fun _=>⟨_,_,_,opT_makeMap (k:=50) (by decide) rfl,?_⟩,fun h=>by cases h⟩
   refine⟨true,rfl,by simp [dstOK],fun _=>⟨_,_,_,opT_loadBoxAgg (k:=2) (off:=0) (n:=1) (cs:=[.dptr (tabC p) 0]) rfl rfl (by simp [bpurge,berase];rfl) hT1 hT2 (Nat.le_refl 1) rfl,?_⟩,fun h=>by cases h⟩
   refine⟨true,rfl,by simp [dstOK],fun _=>⟨_,_,_,opT_bound rfl rfl,?_⟩,fun h=>by cases h⟩
   refine⟨true,rfl,by simp [dstOK],fun _=>⟨_,_,_,opT_insertI (k:=50) (kn:=2) (kvs:=[]) rfl rfl (by simp [bpurge,berase]) hT3 hT4 rfl rfl (by simp) rfl,?_⟩,fun h=>by cases h⟩
   refine⟨true,rfl,by simp [dstOK],fun _=>⟨_,_,_,opT_loadBoxAgg (k:=2) (off:=0) (n:=1) (cs:=[.dptr (tabC p) 0]) rfl rfl (by simp [bpurge,berase];rfl) hT1 hT2 (Nat.le_refl 1) rfl,?_⟩,fun h=>by cases h⟩
   refine⟨true,rfl,by simp [dstOK],fun _=>⟨_,_,_,opT_bound rfl rfl,?_⟩,fun h=>by cases h⟩
   refine⟨true,rfl,by simp [dstOK],fun _=>⟨_,_,_,opT_insertI (k:=50) (kn:=4) (kvs:=[(.int .i64 2,ruleD p 252)]) rfl rfl (by simp [bpurge,berase,ruleD]) hT3 hT4 (by simp [kfind,D.lits,D.lit]) rfl (by intro kv hkv;rw [List.mem_singleton.1 hkv];exact intKey 2 (by decide)) rfl,?_⟩,fun h=>by cases h⟩
   refine⟨true,rfl,by simp [dstOK],fun _=>⟨_,_,_,opT_loadBoxAgg (k:=2) (off:=0) (n:=1) (cs:=[.dptr (tabC p) 0]) rfl rfl (by simp [bpurge,berase];rfl) hT1 hT2 (Nat.le_refl 1) rfl,?_⟩,fun h=>by cases h⟩
   refine⟨true,rfl,by simp [dstOK],fun _=>⟨_,_,_,opT_bound rfl rfl,?_⟩,fun h=>by cases h⟩
   refine⟨true,rfl,by simp [dstOK],fun _=>⟨_,_,_,opT_insertI (k:=50) (kn:=5) (kvs:=[(.int .i64 2,ruleD p 252),(.int .i64 4,ruleD p 253)]) rfl rfl (by simp [bpurge,berase,ruleD]) hT3 hT4 (by simp [kfind,D.lits,D.lit]) rfl (by intro kv hkv;simp only [List.mem_cons,List.not_mem_nil,or_false] at hkv;rcases hkv with rfl | rfl;exact intKey 2 (by decide);exact intKey 4 (by decide)) rfl,?_⟩,fun h=>by cases h⟩
   refine⟨true,rfl,by simp [dstOK],fun _=>⟨_,_,_,opT_move rfl,?_⟩,fun h=>by cases h⟩
   refine⟨true,rfl,by simp [dstOK],fun _=>⟨_,_,_,opT_assign rfl,?_⟩,fun h=>by cases h⟩
   refine AWp.weaken (sl':=[(2,.box 2 0),(3,.box 3 0),(4,.box 4 0),(10,.mp 50)]) (bx':=[(2,.cells [.dptr (tabC p) 0]),(3,.cells (exS e)),(4,.cells [.d (.int .i64 0),.d (.str []),.d (.str []),.d .nil,.d (.int .i64 0),.d .nil,.d .nil,.d (.int .i64 0)]),(50,.map (rulesD p))])
    ⟨.inr (.inl rfl),.inr (.inl rfl),.inr (.inl rfl),.inr (.inl rfl),trivial⟩ ⟨rfl,rfl,rfl,rfl,trivial⟩ ?_
   have hF0:foff prog 28 0=some 0:=by kernel_rfl
   have hallK:∀ kv,kv∈rulesD p→KeyAt prog 3 kv.1:=by
    intro kv hkv
    simp only [rulesD,List.mem_cons,List.not_mem_nil,or_false] at hkv
    rcases hkv with rfl | rfl | rfl
    ·exact intKey 2 (by decide)
    ·exact intKey 4 (by decide)
    ·exact intKey 5 (by decide)
   obtain⟨v1,b,hlook,hcase⟩:∃ (v1:SV) (b:Bool),lookR true (.int .i64 e.kind) (rulesD p) (.d .nilfn)=.tuple [v1,boolV b] ∧
     ((b=false∧e.kind≠2∧e.kind≠4∧e.kind≠5)∨(b=true∧((e.kind=2∧v1=.d (ruleD p 252))∨(e.kind=4∧v1=.d (ruleD p 253))∨(e.kind=5∧v1=.d (ruleD p 254))))):=by
    by_cases k2:e.kind=2
    ·exact⟨_,true,by simp [lookR,lookV,rulesD,kfind,D.lits,D.lit,ofD,ruleD,k2],.inr ⟨rfl,.inl ⟨k2,rfl⟩⟩⟩
    ·by_cases k4:e.kind=4
     ·exact⟨_,true,by simp [lookR,lookV,rulesD,kfind,D.lits,D.lit,ofD,ruleD,k4],.inr ⟨rfl,.inr (.inl ⟨k4,rfl⟩)⟩⟩
     ·by_cases k5:e.kind=5
      ·exact⟨_,true,by simp [lookR,lookV,rulesD,kfind,D.lits,D.lit,ofD,ruleD,k5],.inr ⟨rfl,.inr (.inr ⟨k5,rfl⟩)⟩⟩
      ·exact⟨.d .nilfn,false,by simp [lookR,lookV,rulesD,kfind,D.lits,D.lit,k2,k4,k5],.inl ⟨rfl,k2,k4,k5⟩⟩
   refine AWp.seq (AWp.region [2,3,4,11,12] [2,3,4] (by decide +kernel) ?_)
   refine⟨true,rfl,by simp [dstOK],fun _=>⟨_,_,_,opT_move rfl,?_⟩,fun h=>by cases h⟩
   refine⟨true,rfl,by simp [dstOK],fun _=>⟨_,_,_,opT_fieldBox (k:=3) (off:=0) rfl rfl hF0,?_⟩,fun h=>by cases h⟩
   refine⟨true,rfl,by simp [dstOK],fun _=>⟨_,_,_,opT_loadBox (k:=3) (off:=0) (cs:=exS e) (c:=.d (.int .i64 e.kind)) rfl rfl (by simp) TF3.1 rfl,?_⟩,fun h=>by cases h⟩
   refine⟨true,rfl,by simp [dstOK],fun _=>⟨_,_,_,opT_lookupI (kn:=e.kind) (kvs:=rulesD p) (z:=.d .nilfn) rfl (.mp 50 _ (by simp)) hT3 hT4 rfl hallK hz,?_⟩,fun h=>by cases h⟩
   rw [hlook]
   refine⟨true,rfl,by simp [dstOK],fun _=>⟨_,_,_,opT_move rfl,?_⟩,fun h=>by cases h⟩
   refine⟨true,rfl,by simp [dstOK],fun _=>⟨_,_,_,opT_extract (xs:=[v1,boolV b]) rfl rfl rfl,?_⟩,fun h=>by cases h⟩
   refine⟨true,rfl,by simp [dstOK],fun _=>⟨_,_,_,opT_extract (xs:=[v1,boolV b]) rfl rfl rfl,?_⟩,fun h=>by cases h⟩
   refine⟨true,rfl,by simp [dstOK],fun _=>⟨_,_,_,opT_assign rfl,?_⟩,fun h=>by cases h⟩
   refine⟨true,rfl,by simp [dstOK],fun _=>⟨_,_,_,opT_assign rfl,?_⟩,fun h=>by cases h⟩
   refine AWp.weaken (sl':=[(2,.box 2 0),(3,.box 3 0),(4,.box 4 0),(11,v1),(12,boolV b)]) (bx':=[(2,.cells [.dptr (tabC p) 0]),(3,.cells (exS e)),(4,.cells [.d (.int .i64 0),.d (.str []),.d (.str []),.d .nil,.d (.int .i64 0),.d .nil,.d .nil,.d (.int .i64 0)])])
    ⟨.inr (.inl rfl),.inr (.inl rfl),.inr (.inl rfl),.inr (.inl rfl),.inr (.inl rfl),trivial⟩ ⟨rfl,rfl,rfl,trivial⟩ ?_
   cases hk0:e.kids[0]? with
   | none =>
    have hl0:(e.kids.length:Int)=0:=by
     have:=List.getElem?_eq_none_iff.1 hk0
     omega
    simp only
    cases b
    ·refine kR1 hl0 q1Z fun K1 u1=>?_
     refine tI ?_
     refine sR q1Z ?_
     exact aR
    ·refine kR1 hl0 q1Z fun K1 u1=>?_
     refine tI ?_
     refine sR q1Z ?_
     exact aR
   | some v =>
    have hl0:¬ (e.kids.length:Int)=0:=by have:=(List.getElem?_eq_some_iff.1 hk0).1;omega
    simp only
    rcases hcase with ⟨rfl,k2,k4,k5⟩ | ⟨rfl,hcase⟩
    ·rw [if_neg k2,if_neg k4,if_neg k5]
     refine kR1 hl0 q1Z fun K1 u1=>?_
     refine tI ?_
     refine sR q1Z ?_
     exact aR
    ·rcases hcase with hv1 | hv1 | hv1
     ·obtain⟨hk,rfl⟩:=hv1
      have hc:=ok_call p h e v he hk0
      rw [if_pos hk]
      generalize callE p e v=r at *
      obtain⟨a,o⟩:=r
      refine kR1 hl0 q1Z fun K1 u1=>?_
      refine kI u1 ?_
      (refine AWp.seqR q1Z [800076] (by decide +kernel) fun K z=>?_;refine ev ?_;refine⟨_,_,_,fun o ho _=>opQ_callBound (cells:=tabC p) (args:=[.tmp 75]) rfl rfl hc rfl o ho,?_⟩;(try refine ev ?_);apply z;clear z K)
      exact aR
     ·obtain⟨hk,rfl⟩:=hv1
      have hc:=ok_selection p h e v he hk0
      rw [if_neg (by omega),if_pos hk]
      generalize selE p e v=r at *
      obtain⟨a,o⟩:=r
      refine kR1 hl0 q1Z fun K1 u1=>?_
      refine kI u1 ?_
      (refine AWp.seqR q1Z [800076] (by decide +kernel) fun K z=>?_;refine ev ?_;refine⟨_,_,_,fun o ho _=>opQ_callBound (cells:=tabC p) (args:=[.tmp 75]) rfl rfl hc rfl o ho,?_⟩;(try refine ev ?_);apply z;clear z K)
      exact aR
     ·obtain⟨hk,rfl⟩:=hv1
      have hc:=ok_assertion p h e v he hk0
      rw [if_neg (by omega),if_neg (by omega),if_pos hk]
      generalize asrtE p e v=r at *
      obtain⟨a,o⟩:=r
      refine kR1 hl0 q1Z fun K1 u1=>?_
      refine kI u1 ?_
      (refine AWp.seqR q1Z [800076] (by decide +kernel) fun K z=>?_;refine ev ?_;refine⟨_,_,_,fun o ho _=>opQ_callBound (cells:=tabC p) (args:=[.tmp 75]) rfl rfl hc rfl o ho,?_⟩;(try refine ev ?_);apply z;clear z K)
      exact aR
 ·have h1':firstK1 e=i:=h1
  rw [h1'] at hfi
  rw [h5]
  simp only
  have hkm:=List.mem_of_getElem? h2
  have hik:=ih k hkm (he.kids.2 k hkm)
  have hil:=(List.getElem?_eq_some_iff.1 h2).1
  have hi0:(i:Int) ≥ 0:=by omega
  generalize stepE p k=r at *
  obtain⟨k',o⟩:=r
  simp only at hik ⊢
  refine cB func194 ?_
  refine sR q1Z ?_
  refine kC hfi q1Z fun K1 u1=>?_
  refine sR1 hi0 q1Z ?_
  refine AWp.condT rfl ?_
  (refine sG q1Z [7] 12 [⟨[],[],[7],[7]⟩,⟨[],[],[7],[7]⟩,⟨[],[],[7],[7]⟩,⟨[],[],[7],[7]⟩,⟨[],[],[7],[7]⟩,⟨[],[],[7],[7]⟩,⟨[],[],[7],[7]⟩,⟨[],[],[7],[7]⟩,⟨[],[],[7],[7]⟩,⟨[],[],[7],[7]⟩,⟨[7],[7],[],[]⟩,⟨[7],[],[],[]⟩] fun K z=>?_;refine ev ?_;refine ci (exR_get h2) ?_;refine cc hik ?_;apply z;clear z K)
  by_cases ho:o=1
  ·rw [if_pos ho]
   refine kR1 ho q1Z fun K2 u2=>?_
   refine kI u2 ?_
   clear u2 K2
   (refine AWp.seqR q1Z [34] (by decide +kernel) fun K z=>?_;refine ev ?_;refine⟨by omega,by omega,by unfold lim sm at *;omega,?_⟩;(try refine ev ?_);apply z;clear z K)
   (refine sV q1Z fun K z=>?_;refine⟨exR_row _,by simp [exR_len],?_⟩;(try refine ev ?_);apply z;clear z K)
   refine AWp.weaken (sl':=[(3,.box 3 0),(4,.box 4 0),(6,intV i),(7,.box 7 0),(9,.acc 34)]) (bx':=[(3,.cells (exS e)),(4,.cells [.d (.int .i64 0),.d (.str []),.d (.str []),.d .nil,.d (.int .i64 0),.d .nil,.d .nil,.d (.int .i64 0)]),(7,.cells (exS k')),(34,.rows 8 (exR e.kids))])
    ⟨.inr (.inl rfl),.inr (.inl rfl),.inr (.inl rfl),.inr (.inl rfl),.inr (.inl rfl),trivial⟩ (by simp [ble,bget,berase,exR_len,exS]) ?_
   (refine sV q1Z fun K z=>?_;refine⟨by omega,hil,_,exC k',exR_get h2,rfl,Nat.le_refl 8,?_⟩;(try refine ev ?_);apply z;clear z K)
   refine AWp.weaken (sl':=[(3,.box 3 0),(4,.box 4 0),(9,.acc 34)]) (bx':=[(3,.cells (exS e)),(4,.cells [.d (.int .i64 0),.d (.str []),.d (.str []),.d .nil,.d (.int .i64 0),.d .nil,.d .nil,.d (.int .i64 0)]),(34,.rows 8 (exR (e.kids.set i k')))])
    ⟨.inr (.inl rfl),.inr (.inl rfl),.inr (.inl rfl),trivial⟩ ⟨rfl,rfl,by rw [← exR_set];rfl,trivial⟩ ?_
   refine AWp.publish 34 rfl (AWp.weaken (sl':=[(3,.box 3 0),(4,.box 4 0),(9,.d (.slice (exR (e.kids.set i k'))))]) (bx':=[(3,.cells (exS e)),(4,.cells [.d (.int .i64 0),.d (.str []),.d (.str []),.d .nil,.d (.int .i64 0),.d .nil,.d .nil,.d (.int .i64 0)])])
    ⟨.inr (.inl rfl),.inr (.inl rfl),.inr (.inl rfl),trivial⟩ ⟨rfl,rfl,trivial⟩ ?_)
   refine sR q1Z ?_
   refine sR q1Z ?_
   exact aR
  ·rw [if_neg ho]
   refine kR1 ho q1Z fun K2 u2=>?_
   refine tI ?_
   refine sR q1Z ?_
   exact aR
theorem isValL_iff:∀ l:List Ex,isValL l=true↔∀ x,x∈l→isVal x=true
 | []=>by simp [isValL]
 | x::l=>by rw [isValL,Bool.and_eq_true,isValL_iff l];simp
theorem stepL_at {p:Prog} {l:List Ex} {j:Nat} {k:Ex} (h1:∀ x,x∈l.take j→isVal x=true)(h2:l[j]? = some k)(h3:isVal k=false):stepL p l=some (l.set j (stepE p k).1,(stepE p k).2):=by
 have hi:idxF (fun k=>!isVal k) l=(j:Int):=idxF_some h2 (by rw [h3];rfl) fun y hy=>by rw [h1 y hy];rfl
 rcases stepL_cases p l with ⟨g1,_⟩ | ⟨i,k',g1,g2,_,_,g5⟩
 ·rw [hi] at g1;omega
 ·have:i=j:=by rw [hi] at g1;omega
  subst this
  rw [h2] at g2;simp only [Option.some.injEq] at g2;subst g2
  exact g5
theorem stepL_none {p:Prog} {l:List Ex} (h1:∀ x,x∈l→isVal x=true):stepL p l=none:=by
 rcases stepL_cases p l with ⟨_,g2⟩ | ⟨i,k',_,g2,g3,_⟩
 ·exact g2
 ·rw [h1 k' (List.mem_of_getElem? g2)] at g3;cases g3
abbrev q1ax:List Nat:=[0,1,2,3,4,5,6,7,8,9,14,22,34,38]
theorem ok_RStep (p:Prog)(hr:∀ e:Ex,e.Sm→(∀ x,x∈e.kids→isVal x=true)→CallOK prog 202 [prV p,exV e] (resV (redexE p e)))(e:Ex):e.Sm→CallOK prog 131 [prV p,exV e] (resV (stepE p e)):=by
 induction e using Ex.induct with
 | h e ih =>
 intro he
 have hkl:=he.kids.1
 refine cB func131 ?_
 refine sR q1ax ?_
 refine kR q1ax fun K1 u1=>?_
 refine AWp.block (AWp.forIdx e.kids (X:=Unit) (fun j _=>[(2,.box 2 0),(3,.box 3 0),(4,.box 4 0),(6,intV j)])
  (fun j _=>[(2,.cells ((prC p).map .d)),(3,.cells (exS e)),(4,.cells [.d (.int .i64 0),.d (.str []),.d (.str []),.d .nil,.d (.int .i64 0),.d .nil,.d .nil,.d (.int .i64 0)])])
  (fun j _=>∀ x,x∈e.kids.take j→isVal x=true) () (by simp) sS (by simp [ble,bget,exS,prC]) ?_ ?_)
 ·intro _ hI
  rw [List.take_length] at hI
  have hre:=hr e he hI
  refine kR1 Int.lt_irrefl q1ax fun K2 u2=>?_
  refine AWp.stopK rfl ?_
  simp only [thenA,blockA,if_true]
  refine u1 _ _ ?_
  clear u1 K1 u2 K2
  rw [stepE_eq,stepL_none hI]
  generalize redexE p e=r at *
  obtain⟨k',o⟩:=r
  refine sC hre q1ax ?_
  exact aR
 ·intro j _ d hd hmem dp tk hlt hI
  have hv:=ok_RefValue d (he.kids.2 d hmem)
  have hjl:=(List.getElem?_eq_some_iff.1 hd).1
  refine kR1 hlt q1ax fun K2 u2=>?_
  refine gI u2 ?_
  clear u2 K2
  refine sK fun K2 u2=>?_
  refine AWp.block ?_
  cases hval:isVal d with
  | true =>
   rw [hval] at hv
   refine sK fun K3 u3=>?_
   (refine sV q1ax fun K z=>?_;refine ci (exR_get hd) ?_;refine cc hv ?_;apply z;clear z K)
   refine AWp.condT rfl (AWp.exit ?_)
   simp only [thenA,blockA,if_true]
   refine u2 _ _ ?_
   clear u3 K3 u2 K2
   (refine lV q1ax fun K z=>?_;refine cl ?_;apply z;clear z K;try simp only [thenA,blockA,if_true])
   refine⟨(),?_,sS,by simp [ble,bget,exS,prC]⟩
   rw [tk]
   intro x hx
   rcases List.mem_append.1 hx with hx | hx
   ·exact hI x hx
   ·rw [List.mem_singleton.1 hx];exact hval
  | false =>
   rw [hval] at hv
   have hid:=ih d hmem (he.kids.2 d hmem)
   rw [stepE_eq,stepL_at hI hd hval]
   simp only
   generalize stepE p d=r at *
   obtain⟨k',o⟩:=r
   refine sK fun K3 u3=>?_
   (refine sV q1ax fun K z=>?_;refine ci (exR_get hd) ?_;refine cc hv ?_;apply z;clear z K)
   refine kI u3 ?_
   clear u3 K3
   (refine sG q1ax [7] 12 [⟨[],[],[7],[7]⟩,⟨[],[],[7],[7]⟩,⟨[],[],[7],[7]⟩,⟨[],[],[7],[7]⟩,⟨[],[],[7],[7]⟩,⟨[],[],[7],[7]⟩,⟨[],[],[7],[7]⟩,⟨[],[],[7],[7]⟩,⟨[],[],[7],[7]⟩,⟨[],[],[7],[7]⟩,⟨[7],[7],[],[]⟩,⟨[7],[],[],[]⟩] fun K z=>?_;refine ev ?_;refine ci (exR_get hd) ?_;refine cc hid ?_;apply z;clear z K)
   by_cases ho:o=1
   ·rw [if_pos ho]
    refine kR1 ho q1ax fun K3 u3=>?_
    refine kI u3 ?_
    clear u3 K3
    refine sR q1ax ?_
    (refine sG q1ax [38] 14 [⟨[38],[38],[],[]⟩,⟨[],[],[38],[38]⟩,⟨[],[],[38],[38]⟩,⟨[],[],[38],[38]⟩,⟨[],[],[38],[38]⟩,⟨[38],[38],[],[]⟩,⟨[],[],[38],[38]⟩,⟨[],[],[38],[38]⟩,⟨[38],[38],[],[]⟩,⟨[],[],[38],[38]⟩,⟨[],[],[38],[38]⟩,⟨[],[],[38],[38]⟩,⟨[],[],[38],[38]⟩,⟨[],[],[38],[38]⟩] fun K z=>?_;refine ev ?_;refine⟨exR_row _,by omega,by omega,?_⟩;(try refine ev ?_);refine⟨fun row h=>exR_row _ row (List.mem_of_mem_take h),by simp only [List.length_take,exR_len];unfold lim;have:=hkl;unfold sm at this;omega,?_⟩;(try refine ev ?_);refine⟨by simp,by simp only [List.length_take,exR_len];unfold lim;have:=hkl;unfold sm at this;omega,?_⟩;(try refine ev ?_);refine cl ?_;refine⟨exR_row _,by omega,by omega,by omega,?_⟩;(try refine ev ?_);refine⟨fun row h=>exR_row _ row (List.mem_of_mem_take (List.mem_of_mem_drop h)),by simp only [List.length_append,List.length_take,List.length_drop,List.length_cons,List.length_nil,exR_len];unfold lim;have:=hkl;unfold sm at this;omega,?_⟩;(try refine ev ?_);apply z;clear z K)
    have hrows:(exR e.kids).take j++[exC k']++((exR e.kids).take e.kids.length).drop (((j:Int)+1).toNat)=exR (e.kids.set j k'):=by
     rw [show ((j:Int)+1).toNat=j+1 by omega,← exR_len e.kids,List.take_length,← exR_set,List.set_eq_take_append_cons_drop,if_pos (by rw [exR_len];exact hjl),List.append_assoc]
     rfl
    refine AWp.weaken (sl':=[(4,.box 4 0),(9,.box 9 0)]) (bx':=[(4,.cells [.d (.int .i64 0),.d (.str []),.d (.str []),.d .nil,.d (.int .i64 0),.d .nil,.d .nil,.d (.int .i64 0)]),(9,.cells [.d (.int .i64 e.kind),.d (.str e.name),.d (.str e.type.name),.d (.slice (tyR e.type.args)),.d (.int .i64 e.type.pos),.d (.slice (tyR e.targs)),.acc 38,.d (.int .i64 e.pos)]),(38,.rows 8 (exR (e.kids.set j k')))])
     ⟨.inr (.inl rfl),.inr (.inl rfl),trivial⟩ ⟨rfl,rfl,by rw [← hrows];rfl,trivial⟩ ?_
    refine sR q1ax ?_
    exact aR
   ·rw [if_neg ho]
    refine kR1 ho q1ax fun K3 u3=>?_
    refine tI ?_
    refine sR q1ax ?_
    exact aR
theorem idx_find {α:Type} (q:α→Bool):∀ l:List α,(idxF q l = -1∧l.find? q=none)∨∃ (j:Nat)(x:α),idxF q l=j∧l[j]? = some x∧l.find? q=some x
 | []=>.inl ⟨rfl,rfl⟩
 | x::l=>by
  rw [idxF_cons,List.find?_cons]
  cases hx:q x with
  | true=>exact .inr ⟨0,x,by simp,rfl,rfl⟩
  | false =>
   simp only [Bool.false_eq_true,if_false]
   rcases idx_find q l with ⟨h1,h2⟩ | ⟨j,y,h1,h2,h3⟩
   ·exact .inl ⟨by rw [h1];rfl,h2⟩
   ·exact .inr ⟨j+1,y,by rw [h1,if_neg (by omega)];omega,by simpa using h2,h3⟩
theorem methP_methD (p:Prog)(x:Ty)(m:Str):(methP p x m < 0∧methD p x m=none)∨∃ (j:Nat)(d:Decl),methP p x m=j∧p.decls[j]? = some d∧methD p x m=some d:=by
 unfold methP methD methI
 by_cases hi:instB p x 1=true
 ·rw [if_pos hi,if_pos hi]
  rcases idx_find (keyM x.name m) p.decls with ⟨h1,h2⟩ | ⟨j,d,h1,h2,h3⟩
  ·rw [h1,h2]
   left
   refine⟨?_,rfl⟩
   split
   ·rw [if_neg (by omega)];omega
   ·omega
  ·rw [h1,Int.toNat_natCast,h2,h3]
   simp only
   by_cases hv:d.vars.length=x.args.length
   ·right
    exact⟨j,d,by rw [if_pos ⟨by omega,hv⟩],h2,by rw [if_pos hv]⟩
   ·left
    exact⟨by rw [if_neg (fun h=>hv h.2)];omega,by rw [if_neg hv]⟩
 ·rw [if_neg hi,if_neg hi]
  exact .inl ⟨by omega,rfl⟩
abbrev exK (k:Int)(e:Ex):List SV:=[.d (.int .i64 k),.d (.str e.name),.d (.str e.type.name),.d (.slice (tyR e.type.args)),.d (.int .i64 e.type.pos),.d (.slice (tyR e.targs)),.d (.slice (exR e.kids)),.d (.int .i64 e.pos)]
abbrev q1bx:List Nat:=[0,1,2,3,4,5,6,7,8,9,10,11,12,13,14,17,32,46,54,64,69,78,84,89,98,123,125,134,144,150]
theorem ok_rdxSel (p:Prog)(h:p.Sm)(e v:Ex)(he:e.Sm)(h0:e.kids[0]? = some v)(hk:e.kind=4):CallOK prog 202 [prV p,exV e] (resV (selE p e v)):=by
 have hv:=he.kids.2 v (List.mem_of_getElem? h0)
 have hin:=ok_RefInstance p v.type 1
 have hx:exV e=.agg [.d (.int .i64 4),.d (.str e.name),.d (.str e.type.name),.d (.slice (tyR e.type.args)),.d (.int .i64 e.type.pos),.d (.slice (tyR e.targs)),.d (.slice (exR e.kids)),.d (.int .i64 e.pos)]:=by rw [← hk]
 have hlen:¬ (e.kids.length:Int)=0:=by have:=(List.getElem?_eq_some_iff.1 h0).1;omega
 unfold selE
 cases hi:instB p v.type 1 with
 | false =>
  rw [hi] at hin
  rw [if_neg (fun hh=>by cases hh.1)]
  rw [show resV (e,4)=.tuple [exV e,intV 4] from rfl,hx]
  refine cB func202 ?_
  refine sR q1bx ?_
  refine kR q1bx fun K1 u1=>?_
  refine kI u1 ?_
  clear u1 K1
  refine kR1 hlen q1bx fun K1 u1=>?_
  refine kI u1 ?_
  clear u1 K1
  (refine sV q1bx fun K z=>?_;refine cj (exR_get h0) ?_;apply z;clear z K)
  refine kC hin q1bx fun K1 u1=>?_
  refine AWp.condF rfl (AWp.skip (u1 _ _ ?_))
  clear u1 K1
  refine kR q1bx fun K1 u1=>?_
  refine kI u1 ?_
  clear u1 K1
  refine kR q1bx fun K1 u1=>?_
  refine tI ?_
  refine sR q1bx ?_
  exact aR
 | true =>
  rw [hi] at hin
  have hf:=ok_RFields p h v.type hv.type hi
  have hfl:=fieldsT_len h v.type
  generalize fieldsT p v.type=fs at *
  generalize hz:idxF (fun f:Param=>decide (f.name=e.name)) fs=z
  have hxr:resV (if true=true∧0≤z∧z < v.kids.length then ((v.kids[z.toNat]?).getD v,1) else (e,4))=resV (if 0≤z∧z < v.kids.length then ((v.kids[z.toNat]?).getD v,1) else (e,4)):=by simp
  rw [hxr]
  clear hxr
  refine cB func202 ?_
  rw [hx]
  refine sR q1bx ?_
  refine kR q1bx fun K1 u1=>?_
  refine kI u1 ?_
  clear u1 K1
  refine kR1 hlen q1bx fun K1 u1=>?_
  refine kI u1 ?_
  clear u1 K1
  (refine sV q1bx fun K z=>?_;refine cj (exR_get h0) ?_;apply z;clear z K)
  refine kC hin q1bx fun K1 u1=>?_
  refine AWp.condT rfl ?_
  refine sC hf q1bx ?_
  refine sR q1bx ?_
  refine AWp.block (AWp.forIdx fs (X:=Unit) (fun j _=>[(3,.box 3 0),(4,.box 4 0),(6,.box 6 0),(7,.d (.slice (paR fs))),(8,intV j)])
   (fun j _=>[(3,.cells (exK 4 e)),(4,.cells [.d (.int .i64 0),.d (.str []),.d (.str []),.d .nil,.d (.int .i64 0),.d .nil,.d .nil,.d (.int .i64 0)]),(6,.cells (exS v))])
   (fun j _=>∀ y,y∈fs.take j→decide (y.name=e.name)=false) () (by simp) sS (by simp [ble,bget,exS,exK]) ?_ ?_)
  ·intro _ hI
   rw [List.take_length] at hI
   rw [idxF_none hI] at hz
   refine kR1 Int.lt_irrefl q1bx fun K2 u2=>?_
   refine AWp.stopK rfl ?_
   simp only [thenA,blockA,if_true]
   refine u1 _ _ ?_
   clear u1 K1 u2 K2
   rw [if_neg (fun hh=>by omega)]
   rw [show resV (e,4)=.tuple [exV e,intV 4] from rfl,hx]
   refine wk [(3,.box 3 0),(4,.box 4 0)] [(3,.cells [.d (.int .i64 4),.d (.str e.name),.d (.str e.type.name),.d (.slice (tyR e.type.args)),.d (.int .i64 e.type.pos),.d (.slice (tyR e.targs)),.d (.slice (exR e.kids)),.d (.int .i64 e.pos)]),(4,.cells [.d (.int .i64 0),.d (.str []),.d (.str []),.d .nil,.d (.int .i64 0),.d .nil,.d .nil,.d (.int .i64 0)])] ?_
   refine kR q1bx fun K1 u1=>?_
   refine kI u1 ?_
   clear u1 K1
   refine kR q1bx fun K1 u1=>?_
   refine tI ?_
   refine sR q1bx ?_
   exact aR
  ·intro j _ f hd hmem dp tk hlt hI
   refine kR1 hlt q1bx fun K2 u2=>?_
   refine gI u2 ?_
   clear u2 K2
   refine sK fun K2 u2=>?_
   refine AWp.block ?_
   by_cases hn:f.name=e.name
   ·rw [idxF_some hd (by simp [hn]) hI] at hz
    by_cases hj:(j:Int) < v.kids.length
    ·have hx2:v.kids[j]? = some v.kids[j]:=List.getElem?_eq_getElem (by omega)
     rw [← hz,if_pos ⟨by omega,hj⟩,Int.toNat_natCast,hx2,Option.getD_some]
     generalize v.kids[j]=u at *
     (refine sG q1bx [] 7 [] fun K z=>?_;refine ev1 hn ?_;refine⟨by omega,_,paR_get hd,rfl,?_⟩;(try refine ev1 hn ?_);apply z;clear z K)
     refine AWp.condT rfl ?_
     refine kR1 hj q1bx fun K3 u3=>?_
     refine tI ?_
     (refine sV q1bx fun K z=>?_;refine ci (exR_get hx2) ?_;apply z;clear z K)
     exact aR
    ·rw [← hz,if_neg (fun hh=>hj hh.2)]
     rw [show resV (e,4)=.tuple [exV e,intV 4] from rfl,hx]
     (refine sG q1bx [] 7 [] fun K z=>?_;refine ev1 hn ?_;refine⟨by omega,_,paR_get hd,rfl,?_⟩;(try refine ev1 hn ?_);apply z;clear z K)
     refine AWp.condT rfl ?_
     refine kR1 hj q1bx fun K3 u3=>?_
     refine kI u3 ?_
     clear u3 K3
     refine wk [(3,.box 3 0),(4,.box 4 0)] [(3,.cells [.d (.int .i64 4),.d (.str e.name),.d (.str e.type.name),.d (.slice (tyR e.type.args)),.d (.int .i64 e.type.pos),.d (.slice (tyR e.targs)),.d (.slice (exR e.kids)),.d (.int .i64 e.pos)]),(4,.cells [.d (.int .i64 0),.d (.str []),.d (.str []),.d .nil,.d (.int .i64 0),.d .nil,.d .nil,.d (.int .i64 0)])] ?_
     refine sR q1bx ?_
     exact aR
   ·(refine sG q1bx [] 7 [] fun K z=>?_;refine ev1 hn ?_;refine⟨by omega,_,paR_get hd,rfl,?_⟩;(try refine ev1 hn ?_);apply z;clear z K)
    refine AWp.condF rfl (AWp.skip (u2 _ _ ?_))
    clear u2 K2
    (refine lV q1bx fun K z=>?_;refine cl ?_;apply z;clear z K;try simp only [thenA,blockA,if_true])
    refine⟨(),?_,sS,by simp [ble,bget,exS,exK]⟩
    rw [tk]
    intro y hy
    rcases List.mem_append.1 hy with hy | hy
    ·exact hI y hy
    ·rw [List.mem_singleton.1 hy];simp [hn]
abbrev q1cx:List Nat:=[0,1,2,3,4,5,6,7,8,9,10,11,12,13,14,17,32,46,54,64,69,78,84,89,98,123,125,134,144,150]
theorem ok_rdxAsrt (p:Prog)(h:p.Sm)(e v:Ex)(he:e.Sm)(h0:e.kids[0]? = some v)(hk:e.kind=5):CallOK prog 202 [prV p,exV e] (resV (asrtE p e v)):=by
 have hv:=he.kids.2 v (List.mem_of_getElem? h0)
 have hi:=ok_RImplements p h [] (by simp) (by simp) v.type e.type hv.type he.type
 have hx:exV e=.agg [.d (.int .i64 5),.d (.str e.name),.d (.str e.type.name),.d (.slice (tyR e.type.args)),.d (.int .i64 e.type.pos),.d (.slice (tyR e.targs)),.d (.slice (exR e.kids)),.d (.int .i64 e.pos)]:=by rw [← hk]
 have hlen:¬ (e.kids.length:Int)=0:=by have:=(List.getElem?_eq_some_iff.1 h0).1;omega
 unfold asrtE
 generalize implB p [] v.type e.type=b at *
 cases b
 ·rw [if_neg (by decide)]
  rw [show resV (e,3)=.tuple [exV e,intV 3] from rfl,hx]
  refine cB func202 ?_
  refine sR q1cx ?_
  refine kR q1cx fun K1 u1=>?_
  refine kI u1 ?_
  clear u1 K1
  refine kR1 hlen q1cx fun K1 u1=>?_
  refine kI u1 ?_
  clear u1 K1
  (refine sV q1cx fun K z=>?_;refine cj (exR_get h0) ?_;apply z;clear z K)
  refine kR q1cx fun K1 u1=>?_
  refine AWp.condF rfl (AWp.skip (u1 _ _ ?_))
  clear u1 K1
  refine kR q1cx fun K1 u1=>?_
  refine AWp.condT rfl ?_
  refine kC hi q1cx fun K2 u2=>?_
  refine kI u2 ?_
  refine sR q1cx ?_
  exact aR
 ·rw [if_pos rfl]
  rw [hx]
  refine cB func202 ?_
  refine sR q1cx ?_
  refine kR q1cx fun K1 u1=>?_
  refine kI u1 ?_
  clear u1 K1
  refine kR1 hlen q1cx fun K1 u1=>?_
  refine kI u1 ?_
  clear u1 K1
  (refine sV q1cx fun K z=>?_;refine cj (exR_get h0) ?_;apply z;clear z K)
  refine kR q1cx fun K1 u1=>?_
  refine AWp.condF rfl (AWp.skip (u1 _ _ ?_))
  clear u1 K1
  refine kR q1cx fun K1 u1=>?_
  refine AWp.condT rfl ?_
  refine kC hi q1cx fun K2 u2=>?_
  refine tI ?_
  refine sR q1cx ?_
  exact aR
abbrev q2cx:List Nat:=[0,1,2,3,4,5,6,7,8,9,10,11,12,13,14,17,32,46,54,64,69,78,84,89,98,123,125,134,144,150]
theorem ok_rdxCall (p:Prog)(h:p.Sm)(e v:Ex)(he:e.Sm)(h0:e.kids[0]? = some v)(hk:e.kind=2):CallOK prog 202 [prV p,exV e] (resV (callE p e v)):=by
 have hv:=he.kids.2 v (List.mem_of_getElem? h0)
 have hm:=ok_Method p h.decls.1 v.type e.name
 have hkl:=he.kids.1
 have hx:exV e=.agg [.d (.int .i64 2),.d (.str e.name),.d (.str e.type.name),.d (.slice (tyR e.type.args)),.d (.int .i64 e.type.pos),.d (.slice (tyR e.targs)),.d (.slice (exR e.kids)),.d (.int .i64 e.pos)]:=by rw [← hk]
 have hlen:¬ (e.kids.length:Int)=0:=by have:=(List.getElem?_eq_some_iff.1 h0).1;omega
 unfold callE
 rcases methP_methD p v.type e.name with ⟨g1,g2⟩ | ⟨i,d,g1,g2,g3⟩
 ·rw [g2]
  simp only
  generalize methP p v.type e.name=z at *
  rw [show resV (e,4)=.tuple [exV e,intV 4] from rfl,hx]
  refine cB func202 ?_
  refine sR q2cx ?_
  refine kR q2cx fun K1 u1=>?_
  refine kI u1 ?_
  clear u1 K1
  refine kR1 hlen q2cx fun K1 u1=>?_
  refine kI u1 ?_
  clear u1 K1
  (refine sV q2cx fun K z=>?_;refine cj (exR_get h0) ?_;apply z;clear z K)
  refine kR q2cx fun K1 u1=>?_
  refine AWp.condF rfl (AWp.skip (u1 _ _ ?_))
  clear u1 K1
  refine kR q2cx fun K1 u1=>?_
  refine AWp.condF rfl (AWp.skip (u1 _ _ ?_))
  clear u1 K1
  refine kR q2cx fun K1 u1=>?_
  refine kI u1 ?_
  clear u1 K1
  refine sC hm q2cx ?_
  refine kR1 g1 q2cx fun K1 u1=>?_
  refine tI ?_
  refine sR q2cx ?_
  exact aR
 ·rw [g3]
  rw [g1] at hm
  simp only
  have hds:=h.decls.2 d (List.mem_of_getElem? g2)
  have hi0:¬ (i:Int) < 0:=by omega
  have hpl:=hds.sig.params.1
  refine cB func202 ?_
  rw [hx]
  refine sR q2cx ?_
  refine kR q2cx fun K1 u1=>?_
  refine kI u1 ?_
  clear u1 K1
  refine kR1 hlen q2cx fun K1 u1=>?_
  refine kI u1 ?_
  clear u1 K1
  (refine sV q2cx fun K z=>?_;refine cj (exR_get h0) ?_;apply z;clear z K)
  refine kR q2cx fun K1 u1=>?_
  refine AWp.condF rfl (AWp.skip (u1 _ _ ?_))
  clear u1 K1
  refine kR q2cx fun K1 u1=>?_
  refine AWp.condF rfl (AWp.skip (u1 _ _ ?_))
  clear u1 K1
  refine kR q2cx fun K1 u1=>?_
  refine kI u1 ?_
  clear u1 K1
  refine sC hm q2cx ?_
  refine kR1 hi0 q2cx fun K1 u1=>?_
  refine kI u1 ?_
  clear u1 K1
  (refine sV q2cx fun K z=>?_;refine ci (deR_get g2) ?_;apply z;clear z K)
  by_cases hl1:d.sig.formals.length=e.targs.length
  ·have hl1':(d.sig.formals.length:Int)=e.targs.length:=by omega
   by_cases hl2:d.sig.params.length+1=e.kids.length
   ·have hl2':(d.sig.params.length:Int)+1=e.kids.length:=by omega
    rw [if_pos ⟨hl1,hl2⟩]
    refine sK fun K1 u1=>?_
    (refine sQ q2cx fun K z=>?_;refine ev2 hl1' hl2' ?_;refine⟨by first | (unfold InR;omega) | (simp only [InR,sm,lim] at *;omega),?_⟩;(try refine ev2 hl1' hl2' ?_);apply z;clear z K)
    refine kI u1 ?_
    clear u1 K1
    have hnm:=ok_RefNames d.sig.formals hds.sig.formals.1
    have hargs:∀ u,u∈v.type.args++e.targs→u.Sm:=fun u hu=>(List.mem_append.1 hu).elim (hv.type.arg u) (he.targs.2 u)
    have hsub:=ok_R5Subst (d.vars++fnames d.sig.formals) (v.type.args++e.targs) hargs d.body hds.body
    have hsm:=Ex.Sm.subst (vars:=d.vars++fnames d.sig.formals) hargs d.body hds.body
    unfold calledE
    generalize d.body.subst (d.vars++fnames d.sig.formals) (v.type.args++e.targs)=body at *
    have hrep:=ok_R5Replace (d.recv::d.sig.params.map (·.name)) e.kids he.kids.2 body hsm
    rw [strsV,strR_append,tysV,tyR_append] at hsub
    have hvl:=hds.vars.1
    have hfl:=hds.sig.formals.1
    have hal:=hv.type.len
    have htl:=he.targs.1
    have hfn:(fnames d.sig.formals).length=d.sig.formals.length:=by simp [fnames]
    rw [show d.sig.formals.map (fun f=>f.name)=fnames d.sig.formals from rfl] at hnm
    generalize fnames d.sig.formals=ns at *
    (refine sG q2cx [125] 7 [⟨[125],[125],[],[]⟩,⟨[],[],[125],[125]⟩,⟨[],[],[125],[125]⟩,⟨[125],[125],[],[]⟩,⟨[],[],[125],[125]⟩,⟨[],[],[125],[125]⟩,⟨[],[],[125],[125]⟩] fun K z=>?_;refine ev ?_;refine⟨strR_row _,by unfold lim sm at *;omega,?_⟩;(try refine ev ?_);refine cc hnm ?_;refine⟨strR_row _,by unfold lim sm at *;omega,?_⟩;(try refine ev ?_);apply z;clear z K)
    refine AWp.publish 125 rfl (AWp.weaken (sl':=[(3,.box 3 0),(4,.box 4 0),(6,.box 6 0),(10,.box 10 0),(11,.d (.slice (strR d.vars++strR ns)))]) (bx':=[(3,.cells (exK 2 e)),(4,.cells [.d (.int .i64 0),.d (.str []),.d (.str []),.d .nil,.d (.int .i64 0),.d .nil,.d .nil,.d (.int .i64 0)]),(6,.cells (exS v)),(10,.cells ((deC d).map .d))])
     ⟨.inr (.inl rfl),.inr (.inl rfl),.inr (.inl rfl),.inr (.inl rfl),.inr (.inl rfl),trivial⟩ ⟨rfl,rfl,rfl,rfl,trivial⟩ ?_)
    (refine sG q2cx [134] 7 [⟨[134],[134],[],[]⟩,⟨[],[],[134],[134]⟩,⟨[],[],[134],[134]⟩,⟨[],[],[134],[134]⟩,⟨[134],[134],[],[]⟩,⟨[],[],[134],[134]⟩,⟨[],[],[134],[134]⟩] fun K z=>?_;refine ev ?_;refine⟨tyR_row _,by unfold lim sm at *;omega,?_⟩;(try refine ev ?_);refine⟨tyR_row _,by unfold lim sm at *;omega,?_⟩;(try refine ev ?_);apply z;clear z K)
    refine AWp.publish 134 rfl (AWp.weaken (sl':=[(3,.box 3 0),(4,.box 4 0),(10,.box 10 0),(11,.d (.slice (strR d.vars++strR ns))),(12,.d (.slice (tyR v.type.args++tyR e.targs)))]) (bx':=[(3,.cells (exK 2 e)),(4,.cells [.d (.int .i64 0),.d (.str []),.d (.str []),.d .nil,.d (.int .i64 0),.d .nil,.d .nil,.d (.int .i64 0)]),(10,.cells ((deC d).map .d))])
     ⟨.inr (.inl rfl),.inr (.inl rfl),.inr (.inl rfl),.inr (.inl rfl),.inr (.inl rfl),trivial⟩ ⟨rfl,rfl,rfl,trivial⟩ ?_)
    (refine AWp.seqR q2cx [144] (by decide +kernel) fun K z=>?_;refine ev ?_;apply z;clear z K)
    refine kR q2cx fun K1 u1=>?_
    refine AWp.block (AWp.forIdx d.sig.params (X:=Unit) (fun j _=>[(3,.box 3 0),(4,.box 4 0),(10,.box 10 0),(11,.d (.slice (strR d.vars++strR ns))),(12,.d (.slice (tyR v.type.args++tyR e.targs))),(13,.acc 144),(14,intV j)])
     (fun j _=>[(3,.cells (exK 2 e)),(4,.cells [.d (.int .i64 0),.d (.str []),.d (.str []),.d .nil,.d (.int .i64 0),.d .nil,.d .nil,.d (.int .i64 0)]),(10,.cells ((deC d).map .d)),(144,.rows 1 (strR (d.recv::(d.sig.params.take j).map (·.name))))])
     (fun j _=>True) () trivial sS (by simp [ble,bget,strR,exK,deC]) ?_ ?_)
    ·intro _ _
     rw [List.take_length]
     refine kR1 Int.lt_irrefl q2cx fun K2 u2=>?_
     refine AWp.stopK rfl ?_
     simp only [thenA,blockA,if_true]
     refine u1 _ _ ?_
     clear u1 K1 u2 K2
     refine AWp.publish 144 rfl (AWp.weaken (sl':=[(3,.box 3 0),(4,.box 4 0),(10,.box 10 0),(11,.d (.slice (strR d.vars++strR ns))),(12,.d (.slice (tyR v.type.args++tyR e.targs))),(13,.d (.slice (strR (d.recv::d.sig.params.map (·.name)))))]) (bx':=[(3,.cells (exK 2 e)),(4,.cells [.d (.int .i64 0),.d (.str []),.d (.str []),.d .nil,.d (.int .i64 0),.d .nil,.d .nil,.d (.int .i64 0)]),(10,.cells ((deC d).map .d))])
      ⟨.inr (.inl rfl),.inr (.inl rfl),.inr (.inl rfl),.inr (.inl rfl),.inr (.inl rfl),.inr (.inl rfl),trivial⟩ ⟨rfl,rfl,rfl,trivial⟩ ?_)
     (refine sG q2cx [] 8 [] fun K z=>?_;refine ev ?_;refine cc hsub ?_;refine cc hrep ?_;apply z;clear z K)
     exact aR
    ·intro j _ f hf hmem dp tk hlt _
     rw [tk]
     refine kR1 hlt q2cx fun K2 u2=>?_
     refine gI u2 ?_
     clear u2 K2
     refine sK fun K2 u2=>?_
     refine AWp.block ?_
     (refine lV q2cx fun K z=>?_;refine ci (paR_get hf) ?_;refine⟨by simp,by simp only [List.length_cons,List.length_map,List.length_take];unfold lim sm at *;omega,?_⟩;(try refine ev ?_);apply z;clear z K;try simp only [thenA,blockA,if_true])
     refine u2 _ _ ?_
     clear u2 K2
     (refine lV q2cx fun K z=>?_;refine cl ?_;apply z;clear z K;try simp only [thenA,blockA,if_true])
     exact⟨(),trivial,sS,by simp [ble,bget,strR,exK,deC]⟩
   ·have hl2':¬ (d.sig.params.length:Int)+1=e.kids.length:=by omega
    rw [if_neg (fun hh=>hl2 hh.2)]
    rw [show resV (e,4)=.tuple [exV e,intV 4] from rfl,hx]
    refine sK fun K1 u1=>?_
    (refine sQ q2cx fun K z=>?_;refine ev2 hl1' hl2' ?_;refine⟨by first | (unfold InR;omega) | (simp only [InR,sm,lim] at *;omega),?_⟩;(try refine ev2 hl1' hl2' ?_);apply z;clear z K)
    refine tI ?_
    refine sR q2cx ?_
    exact aR
  ·have hl1':¬ (d.sig.formals.length:Int)=e.targs.length:=by omega
   rw [if_neg (fun hh=>hl1 hh.1)]
   rw [show resV (e,4)=.tuple [exV e,intV 4] from rfl,hx]
   refine kR1 hl1' q2cx fun K1 u1=>?_
   refine tI ?_
   refine sR q2cx ?_
   exact aR
abbrev q3cx:List Nat:=[0,1,2,3,4,5,6,7,8,9,10,11,12,13,14,17,32,46,54,64,69,78,84,89,98,123,125,134,144,150]
theorem ok_rdxOdd (p:Prog)(e:Ex)(h3:e.kind≠3)(h0:e.kids.length=0∨e.kind < 2∨e.kind > 5):CallOK prog 202 [prV p,exV e] (resV (e,4)):=by
 refine cB func202 ?_
 refine sR q3cx ?_
 refine kR1 h3 q3cx fun K1 u1=>?_
 refine kI u1 ?_
 clear u1 K1
 by_cases q0:e.kids.length=0
 ·have q0':(e.kids.length:Int)=0:=by omega
  refine kR1 q0' q3cx fun K1 u1=>?_
  refine tI ?_
  refine sR q3cx ?_
  exact aR
 ·have q0':¬ (e.kids.length:Int)=0:=by omega
  by_cases q1:e.kind < 2
  ·refine kR2 q0' q1 q3cx fun K1 u1=>?_
   refine tI ?_
   refine sR q3cx ?_
   exact aR
  ·have q2:e.kind > 5:=by omega
   refine kR3 q0' q1 q2 q3cx fun K1 u1=>?_
   refine tI ?_
   refine sR q3cx ?_
   exact aR
abbrev q4cx:List Nat:=[0,1,2,3,4,5,6,7,8,9,10,11,12,13,14,17,32,46,54,64,69,78,84,89,98,123,125,134,144,150]
theorem ok_rdxVal (p:Prog)(e:Ex)(hk:e.kind=3):CallOK prog 202 [prV p,exV e] (resV (e,2)):=by
 have hx:exV e=.agg [.d (.int .i64 3),.d (.str e.name),.d (.str e.type.name),.d (.slice (tyR e.type.args)),.d (.int .i64 e.type.pos),.d (.slice (tyR e.targs)),.d (.slice (exR e.kids)),.d (.int .i64 e.pos)]:=by rw [← hk]
 rw [show resV (e,2)=.tuple [exV e,intV 2] from rfl,hx]
 refine cB func202 ?_
 refine sR q4cx ?_
 refine kR q4cx fun K1 u1=>?_
 refine tI ?_
 refine sR q4cx ?_
 exact aR
theorem ok_redex (p:Prog)(h:p.Sm)(e:Ex)(he:e.Sm):CallOK prog 202 [prV p,exV e] (resV (redexE p e)):=by
 unfold redexE
 by_cases h3:e.kind=3
 ·rw [if_pos h3];exact ok_rdxVal p e h3
 ·rw [if_neg h3]
  cases h0:e.kids[0]? with
  | none=>exact ok_rdxOdd p e h3 (.inl (by have:=List.getElem?_eq_none_iff.1 h0;omega))
  | some v =>
   simp only
   by_cases h2:e.kind=2
   ·rw [if_pos h2];exact ok_rdxCall p h e v he h0 h2
   ·rw [if_neg h2]
    by_cases h4:e.kind=4
    ·rw [if_pos h4];exact ok_rdxSel p h e v he h0 h4
    ·rw [if_neg h4]
     by_cases h5:e.kind=5
     ·rw [if_pos h5];exact ok_rdxAsrt p h e v he h0 h5
     ·rw [if_neg h5];exact ok_rdxOdd p e h3 (.inr (by omega))
theorem sameT_refl (t:Ty):sameT t t=true:=(sameT_er t t).2 rfl
theorem sameTL_refl:∀ l:List Ty,sameTL l l=true
 | []=>by rw [sameTL]
 | t::l=>by rw [sameTL,sameT_refl,sameTL_refl l];rfl
theorem sameEL_refl:∀ l:List Ex,(∀ x,x∈l→sameE x x=true)→sameEL l l=true
 | [],_=>by rw [sameEL]
 | t::l,h=>by rw [sameEL,h t (by simp),sameEL_refl l (fun x hx=>h x (by simp [hx]))];rfl
theorem sameE_refl (e:Ex):sameE e e=true:=by
 induction e using Ex.induct with
 | h e ih=>rw [sameE_eq,sameT_refl,sameTL_refl,sameEL_refl _ ih];simp
theorem ok_Step (p:Prog)(h:p.Sm)(e:Ex)(he:e.Sm)(hs:(stepE p e).1.Sm):CallOK prog 127 [prV p,exV e] (resV (stepE p e)):=by
 have h1:=ok_New p h
 have h2:=ok_mstep p h e he
 generalize stepE p e=r at *
 obtain⟨x,o⟩:=r
 have h3:=ok_EClone x hs
 refine cB func127 ?_
 refine sR [0,1,2,3,4,5,6,7] ?_
 (refine sG [0,1,2,3,4,5,6,7] [6] 10 [⟨[],[],[6],[6]⟩,⟨[],[],[6],[6]⟩,⟨[],[],[6],[6]⟩,⟨[],[],[6],[6]⟩,⟨[],[],[6],[6]⟩,⟨[],[],[6],[6]⟩,⟨[],[],[6],[6]⟩,⟨[],[],[6],[6]⟩,⟨[6],[6],[],[]⟩,⟨[6],[],[],[]⟩] fun K z=>?_;refine ev ?_;refine cc h1 ?_;refine cc h2 ?_;apply z;clear z K)
 refine sC h3 [0,1,2,3,4,5,6,7] ?_
 exact aR
end Go.Abs
