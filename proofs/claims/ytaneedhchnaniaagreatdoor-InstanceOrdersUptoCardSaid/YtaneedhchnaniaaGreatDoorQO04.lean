/- instance.finder.needs -/
import Derived.Test.YtaneedhchnaniaaGreatDoorQO01
import Derived.Test.YtaneedhchnaniaaGreatDoorQV06
import Derived.Test.YtaneedhchnaniaaGreatDoorQS36
import Derived.Test.YtaneedhchnaniaaGreatDoorQShelfM2
namespace Go.Abs
set_option maxHeartbeats 1000000
set_option linter.unusedSimpArgs false
set_option linter.unusedVariables false
open Go Go.Proofs Tryz
set_option maxRecDepth 100000
set_option maxHeartbeats 4000000
def needX (ti:Ex→Option Ty)(s:List Ty × List CallT)(x:Ex):List Ty × List CallT :=
 if x.kind=3∨x.kind=5 then (upK Ty.txt s.1 x.type,s.2)
 else if x.kind=2 then (match ti x with
  | some t=>(upK Ty.txt s.1 t,upK CallT.txt s.2 ⟨t,x.name,x.targs⟩)
  | none=>s)
 else s
def needL (ti:Ex→Option Ty)(s:List Ty × List CallT)(l:List Ex):List Ty × List CallT:=l.foldl (needX ti) s
structure NodeOK (p:Prog)(vars:List Param)(ti:Ex→Option Ty)(x:Ex):Prop where
 ty:x.kind=3∨x.kind=5→x.type.Sm∧x.type.tlen≤sm
 call:x.kind=2→∃ k0 t o,x.kids[0]? = some k0∧CallOK prog 111 [.dptr (tabC p) 0,boolV false,.d (.slice []),.d (.slice (paR vars)),exV k0] (.tuple [tyV t,.d o]) ∧
  match ti x with
  | some u=>o=.niliface∧u=t∧t.Sm∧t.tlen≤sm∧CallT.Sm ⟨t,x.name,x.targs⟩∧CallT.tlen ⟨t,x.name,x.targs⟩≤sm
  | none=>∃ ty d,o=.iface ty d
theorem CallT.txt_len (c:CallT):c.txt.length+2≤c.tlen:=Ty.txt_len _
structure STx (s:List Ty × List CallT):Prop where
 ts:∀ t,t∈s.1→t.txt.length≤sm
 cs:∀ c,c∈s.2→c.txt.length≤sm
theorem needX_tx {p:Prog} {vars:List Param} {ti:Ex→Option Ty} {x:Ex} (h:NodeOK p vars ti x) {s:List Ty × List CallT} (hs:STx s):STx (needX ti s x):=by
 unfold needX
 split
 ·rename_i hk
  exact⟨fun t ht=>(mem_upK ht).elim (fun e=>by rw [e];have:=Ty.txt_len x.type;have:=(h.ty hk).2;omega) (hs.ts t),hs.cs⟩
 split
 ·rename_i hk
  obtain⟨k0,t,o,_,_,hm⟩:=h.call hk
  cases hti:ti x with
  | none=>exact hs
  | some u =>
   rw [hti] at hm
   obtain⟨_,rfl,_,h4,_,h6⟩:=hm
   exact⟨fun t ht=>(mem_upK ht).elim (fun e=>by rw [e];have:=Ty.txt_len u;omega) (hs.ts t),fun c hc=>(mem_upK hc).elim (fun e=>by rw [e];have:=CallT.txt_len ⟨u,x.name,x.targs⟩;omega) (hs.cs c)⟩
 ·exact hs
theorem needL_tx {p:Prog} {vars:List Param} {ti:Ex→Option Ty} {l:List Ex} (h:∀ x,x∈l→NodeOK p vars ti x) {s:List Ty × List CallT} (hs:STx s):STx (needL ti s l):=by
 unfold needL
 induction l generalizing s with
 | nil=>exact hs
 | cons x l ih=>exact ih (fun y hy=>h y (by simp [hy])) (needX_tx (h x (by simp)) hs)
abbrev q1mx:List Nat:=[0,1,2,3,4,5,6,7,8,9,11,12,14,15,23,39,1000000,1000001,1000002,1000003,2000003,2000005,3000000,3000001,3000002,3000003]
theorem ok_fiNeeds (p:Prog)(b:Int)(ds:List (Str × Str))(e:Ex)(vars:List Param)(ti:Ex→Option Ty)(hx:∀ x,x∈listE e→NodeOK p vars ti x)(s:List Ty × List CallT)(hs:STx s) :
  CallB prog 56 [.box 1000000 0,exV e,.d (.slice (paR vars))] (fiL p b s.1 s.2 ds) (.tuple []) (fiL p b (needL ti s (listE e)).1 (needL ti s (listE e)).2 ds):=by
 have hif:isIfaceT prog 161=true:=TF161.2.2.2.2.2
 have hA:=ok_ExAll e
 have hall:afterG (fun _=>true) 0 (listE e)=some (listE e).length:=by simp [afterG,allG]
 refine bB func56 ?_
 refine sR q1mx ?_
 refine sC hA q1mx ?_
 refine AWp.block (AWp.rangeFunc (caps:=[.dptr (exC e) 0]) (caps':=[.dptr (exC e) 0]) (f:=103) (r:=.tuple []) (N:=(listE e).length) (xs:=fun i=>exV (((listE e)[i]?).getD e)) (go:=fun _=>true) (jump:=.ret) (ks:=[2000003,2000005,3000000,3000001,3000002,3000003]) (slR:=[(3,.box 2000003 0),(5,.box 2000005 0)])
  (mb:=fun st=>match st with | some j=>(2000003,.cells [.box 3000000 0])::(2000005,.cells [.d (.slice (paR vars))])::fiB 3000000 3000001 3000002 3000003 p b (needL ti s ((listE e).take j)).1 (needL ti s ((listE e).take j)).2 ds | none=>[]) (st:=afterG (fun _=>true) 0 (listE e)) ⟨⟨_,rfl⟩,by decide,by decide,rfl,fun st=>by cases st <;> rfl,by decide,fun _=>rfl,?_⟩ (fun st=>by cases st <;> simp) rfl rfl ?_ ⟨.inr (.inl rfl),.inr (.inl rfl),trivial⟩ ⟨rfl,rfl,rfl,rfl,rfl,rfl,trivial⟩ ?_ ?_)
 ·intro j hj hgo l
  have hxg:=List.getElem?_eq_getElem hj
  have hn:=hx (listE e)[j] (List.getElem_mem hj)
  have htx:=needL_tx (l:=(listE e).take j) (fun x h=>hx x (List.mem_of_mem_take h)) hs
  have hfin:needL ti s ((listE e).take (j+1))=needX ti (needL ti s ((listE e).take j)) (listE e)[j]:=by rw [List.take_succ_eq_append_getElem hj,needL,List.foldl_append];rfl
  obtain⟨tl,cl,hL⟩:∃ tl cl,needL ti s ((listE e).take j)=(tl,cl):=⟨_,_,rfl⟩
  rw [hL] at htx hfin
  generalize (listE e)[j]=x at *
  simp only [hxg,Option.getD_some]
  have hal:=fun (t:Ty)=>ok_fiAll p b cl ds [t]
  simp only [List.mem_singleton,forall_eq,List.foldl_cons,List.foldl_nil,List.length_singleton,tyR_cons,tyR_nil,tyC] at hal
  (refine lV q1mx fun K z=>?_;apply z;clear z K;try simp only [thenA,blockA,if_true])
  refine⟨rfl,?_⟩
  refine AWp.block ?_
  refine sR1 hL q1mx ?_
  refine AWp.block ?_
  refine sK fun K2 u2=>?_
  by_cases k3:x.kind=3
  ·have d3:decide (x.kind=3)=true:=decide_eq_true k3
   have hty:=hn.ty (.inl k3)
   refine sR1 d3 q1mx ?_
   refine AWp.condT rfl (AWp.skip (u2 _ _ ?_))
   clear u2 K2
   refine AWp.condT rfl ?_
   (refine AWp.lastR q1mx [800022] (by decide +kernel) fun K z=>?_;simp -implicitDefEqProofs only [EV,forall_const,implies_true,Nat.reduceAdd,Nat.reduceEqDiff,Nat.reduceBEq,Nat.reduceLeDiff,Nat.reduceSub,Nat.reduceMul,Int.reduceEq,Int.reduceLT,Int.reduceLE,Int.reduceSub,Int.reduceAdd,Int.reduceToNat,reduceCtorEq,Int.reduceNeg,TF3,TF4,TF9,TF22,TF24,TF31,TF39,TF41,TF55,TF95,TF98,TF99,TF102,TF105,berases,bhas];refine⟨_,_,_,opB_callR (fun k=>k - 2000000) (fiB 3000000 3000001 3000002 3000003 p b tl cl ds) (fiB 3000000 3000001 3000002 3000003 p b (upK Ty.txt tl x.type) cl ds) rfl ⟨rfl,rfl,rfl,rfl,trivial⟩ (by simp) (by simp) rfl rfl (hal x.type hty (by decide) tl htx.ts) rfl rfl rfl,?_⟩;(try simp -implicitDefEqProofs only [EV,forall_const,implies_true,Nat.reduceAdd,Nat.reduceEqDiff,Nat.reduceBEq,Nat.reduceLeDiff,Nat.reduceSub,Nat.reduceMul,Int.reduceEq,Int.reduceLT,Int.reduceLE,Int.reduceSub,Int.reduceAdd,Int.reduceToNat,reduceCtorEq,Int.reduceNeg,TF3,TF4,TF9,TF22,TF24,TF31,TF39,TF41,TF55,TF95,TF98,TF99,TF102,TF105,berases,bhas]);apply z;clear z K;try simp only [thenA,blockA,if_true])
   exact⟨rfl,by simp [ble,bget,hfin,needX,k3]⟩
  by_cases k5:x.kind=5
  ·have d5:decide (x.kind=5)=true:=decide_eq_true k5
   have hty:=hn.ty (.inr k5)
   refine sR1 k3 q1mx ?_
   refine AWp.condF rfl ?_
   (refine lQ q1mx fun K z=>?_;refine ev1 d5 ?_;apply z;clear z K;try simp only [thenA,blockA,if_true])
   refine u2 _ _ ?_
   clear u2 K2
   refine AWp.condT rfl ?_
   (refine AWp.lastR q1mx [800022] (by decide +kernel) fun K z=>?_;simp -implicitDefEqProofs only [EV,forall_const,implies_true,Nat.reduceAdd,Nat.reduceEqDiff,Nat.reduceBEq,Nat.reduceLeDiff,Nat.reduceSub,Nat.reduceMul,Int.reduceEq,Int.reduceLT,Int.reduceLE,Int.reduceSub,Int.reduceAdd,Int.reduceToNat,reduceCtorEq,Int.reduceNeg,TF3,TF4,TF9,TF22,TF24,TF31,TF39,TF41,TF55,TF95,TF98,TF99,TF102,TF105,berases,bhas];refine⟨_,_,_,opB_callR (fun k=>k - 2000000) (fiB 3000000 3000001 3000002 3000003 p b tl cl ds) (fiB 3000000 3000001 3000002 3000003 p b (upK Ty.txt tl x.type) cl ds) rfl ⟨rfl,rfl,rfl,rfl,trivial⟩ (by simp) (by simp) rfl rfl (hal x.type hty (by decide) tl htx.ts) rfl rfl rfl,?_⟩;(try simp -implicitDefEqProofs only [EV,forall_const,implies_true,Nat.reduceAdd,Nat.reduceEqDiff,Nat.reduceBEq,Nat.reduceLeDiff,Nat.reduceSub,Nat.reduceMul,Int.reduceEq,Int.reduceLT,Int.reduceLE,Int.reduceSub,Int.reduceAdd,Int.reduceToNat,reduceCtorEq,Int.reduceNeg,TF3,TF4,TF9,TF22,TF24,TF31,TF39,TF41,TF55,TF95,TF98,TF99,TF102,TF105,berases,bhas]);apply z;clear z K;try simp only [thenA,blockA,if_true])
   exact⟨rfl,by simp [ble,bget,hfin,needX,k5]⟩
  refine sR1 k3 q1mx ?_
  refine AWp.condF rfl ?_
  (refine lQ q1mx fun K z=>?_;refine ev1 k5 ?_;apply z;clear z K;try simp only [thenA,blockA,if_true])
  refine u2 _ _ ?_
  clear u2 K2
  refine AWp.condF rfl ?_
  by_cases k2:x.kind=2
  ·have d2:decide (x.kind=2)=true:=decide_eq_true k2
   obtain⟨k0,t,o,hk0,hinf,hm⟩:=hn.call k2
   refine sR1 d2 q1mx ?_
   refine AWp.condT rfl ?_
   (refine sG q1mx [] 15 [⟨[],[],[7],[7]⟩,⟨[],[],[7],[7]⟩,⟨[],[],[7],[7]⟩,⟨[],[],[7],[7]⟩,⟨[],[],[7],[7]⟩,⟨[],[],[7],[7]⟩,⟨[],[],[7],[7]⟩,⟨[],[],[7],[7]⟩,⟨[],[],[7],[7]⟩,⟨[],[],[7],[7]⟩,⟨[],[],[7],[7]⟩,⟨[],[],[7],[7]⟩,⟨[],[],[7],[7]⟩,⟨[7],[7],[],[]⟩,⟨[7],[],[],[]⟩] fun K z=>?_;refine ev ?_;refine cj (exR_get hk0) ?_;refine cc hinf ?_;apply z;clear z K)
   cases hti:ti x with
   | none =>
    rw [hti] at hm
    obtain⟨ty,d,rfl⟩:=hm
    refine sR1 hif q1mx ?_
    refine AWp.condF rfl (AWp.skip ⟨rfl,?_⟩)
    simp [ble,bget,hfin,needX,k3,k5,k2,hti]
   | some u =>
    rw [hti] at hm
    obtain⟨rfl,rfl,ht,htl,hc,hcl⟩:=hm
    have hcn:=ok_Clone u ht
    have hta:=ok_All id [] [] x.targs hc.targs.1 fun t ht=>by
     have:=ok_Subst [] [] (by simp) t (hc.targs.2 t ht)
     rw [subst_nil] at this;exact this
    rw [List.map_id] at hta
    have htext:=ok_iText ⟨u,x.name,x.targs⟩ hc.targs.1 hcl
    have hput:=kput_cM ⟨u,x.name,x.targs⟩ cl
    have hke:=keyO (CallT.txt ⟨u,x.name,x.targs⟩) (by have:=CallT.txt_len ⟨u,x.name,x.targs⟩;unfold sm lim at *;omega)
    have hks:=cM_keys htx.cs
    simp only [caS] at hput htext
    refine sR1 hif q1mx ?_
    refine AWp.condT rfl ?_
    (refine sG q1mx [] 9 [⟨[],[],[9],[9]⟩,⟨[],[],[9],[9]⟩,⟨[],[],[9],[9]⟩,⟨[],[],[9],[9]⟩,⟨[],[],[9],[9]⟩,⟨[],[],[9],[9]⟩,⟨[],[],[9],[9]⟩,⟨[],[],[9],[9]⟩,⟨[9],[9],[],[]⟩] fun K z=>?_;refine ev ?_;refine cc hcn ?_;refine cc hta ?_;apply z;clear z K)
    (refine AWp.seqR q1mx [800051] (by decide +kernel) fun K z=>?_;simp -implicitDefEqProofs only [EV,forall_const,implies_true,Nat.reduceAdd,Nat.reduceEqDiff,Nat.reduceBEq,Nat.reduceLeDiff,Nat.reduceSub,Nat.reduceMul,Int.reduceEq,Int.reduceLT,Int.reduceLE,Int.reduceSub,Int.reduceAdd,Int.reduceToNat,reduceCtorEq,Int.reduceNeg,TF3,TF4,TF9,TF22,TF24,TF31,TF39,TF41,TF55,TF95,TF98,TF99,TF102,TF105,berases,bhas];refine⟨_,_,_,opB_callR (fun k=>k - 2000000) (fiB 3000000 3000001 3000002 3000003 p b tl cl ds) (fiB 3000000 3000001 3000002 3000003 p b (upK Ty.txt tl u) cl ds) rfl ⟨rfl,rfl,rfl,rfl,trivial⟩ (by simp) (by simp) rfl rfl (hal u ⟨ht,htl⟩ (by decide) tl htx.ts) rfl rfl rfl,?_⟩;(try simp -implicitDefEqProofs only [EV,forall_const,implies_true,Nat.reduceAdd,Nat.reduceEqDiff,Nat.reduceBEq,Nat.reduceLeDiff,Nat.reduceSub,Nat.reduceMul,Int.reduceEq,Int.reduceLT,Int.reduceLE,Int.reduceSub,Int.reduceAdd,Int.reduceToNat,reduceCtorEq,Int.reduceNeg,TF3,TF4,TF9,TF22,TF24,TF31,TF39,TF41,TF55,TF95,TF98,TF99,TF102,TF105,berases,bhas]);apply z;clear z K)
    (refine lG q1mx [] 7 [] fun K z=>?_;refine ev1 hput ?_;refine⟨_,.inl ⟨_,rfl,htext,rfl⟩,?_⟩;(try refine ev1 hput ?_);refine⟨hks,hke,?_⟩;(try refine ev1 hput ?_);apply z;clear z K;try simp only [thenA,blockA,if_true])
    exact⟨rfl,by simp [ble,bget,hfin,needX,k3,k5,k2,hti]⟩
  ·refine sR1 k2 q1mx ?_
   refine AWp.condF rfl (AWp.skip ⟨rfl,?_⟩)
   simp [ble,bget,hfin,needX,k3,k5,k2]
 ·intro Y hP hN hxs hg
  refine ok_ExAll1 (fun _=>true) e Y ⟨hP,by rw [hN];omega,fun i x hx=>?_⟩
  rw [hxs,hg]
  simp [hx]
 ·intro j hj _
  rw [hall] at hj
  obtain rfl:=Option.some.inj hj
  simp only [thenA,blockA,if_true,List.take_length]
  refine⟨_,by rw [results56];rfl,.inr rfl,?_⟩
  exact⟨rfl,rfl,rfl,rfl,trivial⟩
 ·intro hj
  rw [hall] at hj
  cases hj
set_option maxHeartbeats 1000000
set_option maxHeartbeats 4000000
theorem TKa:tagg prog 165=some true:=by kernel_rfl
theorem TKs:tsize prog 165=some 2:=by kernel_rfl
theorem TKk:keyT prog 165=true:=by kernel_rfl
abbrev rvB (p:Prog)(b:Int)(x:Ty)(more:Bool)(ts:List Ty)(cs:List CallT)(ds:List (Str × Str)):Boxes:=(1500001,.cells [.box 1000000 0])::(1500003,.cells [.d (.bool more)])::(1500006,.cells (tyS x))::fiL p b ts cs ds
abbrev q1ox:List Nat:=[0,1,2,3,4,17,1000000,1000001,1000002,1000003,1500001,1500003,1500006]
theorem ok_once0 (p:Prog)(b:Int)(x:Ty)(more:Bool)(ts:List Ty)(cs:List CallT)(ds:List (Str × Str))(a:Str)(ha:a.length≤sm)(hds:∀ k,k∈ds→k.1.length≤sm∧k.2.length≤sm)(h1:ts.length≤sm)(h2:cs.length≤sm)
  (h:(a,[])∈ds∨b < (ts.length:Int)+cs.length) :
  CallB prog 113 [.agg [.d (.str a),.d (.str [])],.clo 115 [.box 1500001 0,.box 1500006 0],.box 1500001 0,.box 1500003 0] (rvB p b x more ts cs ds) (.tuple []) (rvB p b x more ts cs ds):=by
 have hkey:KeyAt prog 165 (.agg [.str a,.str []]):=key_arr arr2 a [] (Nat.le_trans ha (by decide)) (by simp)
 have hks:=dM_keys hds
 have hF:=ok_fiFull p b ts cs ds h1 h2
 have hlk:=look_dM a [] ds
 refine bB func113 ?_
 refine sR q1ox ?_
 by_cases hin:(a,[])∈ds
 ·rw [decide_eq_true hin] at hlk
  (refine sG q1ox [800015] 5 [] fun K z=>?_;simp -implicitDefEqProofs only [EV,forall_const,implies_true,Nat.reduceAdd,Nat.reduceEqDiff,Nat.reduceBEq,Nat.reduceLeDiff,Nat.reduceSub,Nat.reduceMul,Int.reduceEq,Int.reduceLT,Int.reduceLE,Int.reduceSub,Int.reduceAdd,Int.reduceToNat,reduceCtorEq,Int.reduceNeg,TF3,TF4,TF9,TF98,TF103,TF105,TF165,hlk,TKa,TKs,TKk];refine⟨hks,hkey,?_⟩;(try simp -implicitDefEqProofs only [EV,forall_const,implies_true,Nat.reduceAdd,Nat.reduceEqDiff,Nat.reduceBEq,Nat.reduceLeDiff,Nat.reduceSub,Nat.reduceMul,Int.reduceEq,Int.reduceLT,Int.reduceLE,Int.reduceSub,Int.reduceAdd,Int.reduceToNat,reduceCtorEq,Int.reduceNeg,TF3,TF4,TF9,TF98,TF103,TF105,TF165,hlk,TKa,TKs,TKk]);apply z;clear z K)
  refine AWp.condF rfl (AWp.skip ?_)
  exact⟨_,by rw [results113];rfl,.inr rfl,⟨rfl,rfl,rfl,rfl,rfl,rfl,rfl,trivial⟩⟩
 ·rw [decide_eq_false hin] at hlk
  have hb:=h.resolve_left hin
  rw [decide_eq_true hb] at hF
  (refine sG q1ox [800015] 5 [] fun K z=>?_;simp -implicitDefEqProofs only [EV,forall_const,implies_true,Nat.reduceAdd,Nat.reduceEqDiff,Nat.reduceBEq,Nat.reduceLeDiff,Nat.reduceSub,Nat.reduceMul,Int.reduceEq,Int.reduceLT,Int.reduceLE,Int.reduceSub,Int.reduceAdd,Int.reduceToNat,reduceCtorEq,Int.reduceNeg,TF3,TF4,TF9,TF98,TF103,TF105,TF165,hlk,TKa,TKs,TKk,berases,bhas];refine⟨hks,hkey,?_⟩;(try simp -implicitDefEqProofs only [EV,forall_const,implies_true,Nat.reduceAdd,Nat.reduceEqDiff,Nat.reduceBEq,Nat.reduceLeDiff,Nat.reduceSub,Nat.reduceMul,Int.reduceEq,Int.reduceLT,Int.reduceLE,Int.reduceSub,Int.reduceAdd,Int.reduceToNat,reduceCtorEq,Int.reduceNeg,TF3,TF4,TF9,TF98,TF103,TF105,TF165,hlk,TKa,TKs,TKk,berases,bhas]);refine⟨_,_,_,opB_callR id (fiL p b ts cs ds) (fiL p b ts cs ds) rfl ⟨rfl,rfl,rfl,rfl,trivial⟩ (by simp) (by simp) rfl rfl hF rfl rfl rfl,?_⟩;(try simp -implicitDefEqProofs only [EV,forall_const,implies_true,Nat.reduceAdd,Nat.reduceEqDiff,Nat.reduceBEq,Nat.reduceLeDiff,Nat.reduceSub,Nat.reduceMul,Int.reduceEq,Int.reduceLT,Int.reduceLE,Int.reduceSub,Int.reduceAdd,Int.reduceToNat,reduceCtorEq,Int.reduceNeg,TF3,TF4,TF9,TF98,TF103,TF105,TF165,hlk,TKa,TKs,TKk,berases,bhas]);apply z;clear z K)
  refine AWp.condF rfl (AWp.skip ?_)
  exact⟨_,by rw [results113];rfl,.inr rfl,⟨rfl,rfl,rfl,rfl,rfl,rfl,rfl,trivial⟩⟩
def fldX (ts:List Ty)(l:List Param):List Ty:=l.foldl (fun a f=>upK Ty.txt a f.type) ts
theorem fldX_tx {l:List Param} (hl:∀ f,f∈l→f.type.Sm∧f.type.tlen≤sm) {ts:List Ty} (hts:∀ t,t∈ts→t.txt.length≤sm):∀ t,t∈fldX ts l→t.txt.length≤sm:=by
 unfold fldX
 induction l generalizing ts with
 | nil=>exact hts
 | cons x l ih =>
  exact ih (fun f hf=>hl f (by simp [hf])) fun t ht=>(mem_upK ht).elim (fun h=>by have:=Ty.txt_len x.type;have:=(hl x (by simp)).2;rw [h];omega) (hts t)
abbrev q2ox:List Nat:=[0,1,2,5,15,16,17,18,1000000,1000001,1000002,1000003,1500001,1500006]
theorem ok_flds (p:Prog)(h:p.Sm)(b:Int)(x:Ty)(hx:x.Sm)(ts:List Ty)(hts:∀ t,t∈ts→t.txt.length≤sm)(cs:List CallT)(ds:List (Str × Str))(hfn:(fieldsT p x).length≤sm)(hf:∀ f,f∈fieldsT p x→f.type.Sm∧f.type.tlen≤sm) :
  CallB prog 115 [.box 1500001 0,.box 1500006 0] ((1500001,.cells [.box 1000000 0])::(1500006,.cells (tyS x))::fiL p b ts cs ds) (.tuple [])
   ((1500001,.cells [.box 1000000 0])::(1500006,.cells (tyS x))::fiL p b (fldX ts (fieldsT p x)) cs ds):=by
 have hF:=ok_TFields p h x hx
 generalize fieldsT p x=l at *
 refine bB func115 ?_
 (refine sG q2ox [] 10 [] fun K z=>?_;refine ev ?_;refine cc hF ?_;apply z;clear z K)
 refine sR q2ox ?_
 refine AWp.block (AWp.forIdx l (X:=Unit) (fun j _=>[(0,.box 1500001 0),(1,.box 1500006 0),(15,.d (.slice (paR l))),(16,intV l.length),(17,intV j)]) (fun j _=>(1500001,.cells [.box 1000000 0])::(1500006,.cells (tyS x))::fiL p b (fldX ts (l.take j)) cs ds)
  (fun _ _=>True) () trivial sS (by simp [ble,bget,fiL,fiB,fldX]) ?_ ?_)
 ·intro _ _
  rw [List.take_length]
  (refine sQ q2ox fun K z=>?_;simp -implicitDefEqProofs only [EV,forall_const,implies_true,Nat.reduceAdd,Nat.reduceEqDiff,Nat.reduceBEq,Nat.reduceLeDiff,Nat.reduceSub,Nat.reduceMul,Int.reduceEq,Int.reduceLT,Int.reduceLE,Int.reduceSub,Int.reduceAdd,Int.reduceToNat,reduceCtorEq,Int.reduceNeg,TF3,TF4,TF9,TF22,TF24,TF55,TF95,TF98,TF99,TF105,Int.lt_irrefl,fiL,fiB];apply z;clear z K)
  refine AWp.stop rfl ?_
  simp only [thenA,blockA,if_true]
  exact⟨_,by rw [results115];rfl,.inr rfl,by simp [ble,bget,fiL,fiB]⟩
 ·intro j _ y hy hmem dp tk hlt _
  have htx:=fldX_tx (l:=l.take j) (fun f hf'=>hf f (List.mem_of_mem_take hf')) hts
  have hal:=ok_fiAll p b cs ds [y.type] (by simpa using hf y hmem) (by simp [sm]) (fldX ts (l.take j)) htx
  simp only [List.foldl_cons,List.foldl_nil,tyR_cons,tyR_nil,tyC] at hal
  have hst:fldX ts (l.take (j+1))=upK Ty.txt (fldX ts (l.take j)) y.type:=by rw [tk];simp [fldX,List.foldl_append]
  rw [hst]
  generalize fldX ts (l.take j)=T at *
  (refine sQ q2ox fun K z=>?_;simp -implicitDefEqProofs only [EV,forall_const,implies_true,Nat.reduceAdd,Nat.reduceEqDiff,Nat.reduceBEq,Nat.reduceLeDiff,Nat.reduceSub,Nat.reduceMul,Int.reduceEq,Int.reduceLT,Int.reduceLE,Int.reduceSub,Int.reduceAdd,Int.reduceToNat,reduceCtorEq,Int.reduceNeg,TF3,TF4,TF9,TF22,TF24,TF55,TF95,TF98,TF99,TF105,hlt,fiL,fiB];apply z;clear z K)
  refine AWp.goOn rfl ?_
  refine sK fun K1 u1=>?_
  refine AWp.block ?_
  (refine sV q2ox fun K z=>?_;refine ci (paR_get hy) ?_;apply z;clear z K)
  (refine AWp.lastR q2ox [800025] (by decide +kernel) fun K z=>?_;simp -implicitDefEqProofs only [EV,forall_const,implies_true,Nat.reduceAdd,Nat.reduceEqDiff,Nat.reduceBEq,Nat.reduceLeDiff,Nat.reduceSub,Nat.reduceMul,Int.reduceEq,Int.reduceLT,Int.reduceLE,Int.reduceSub,Int.reduceAdd,Int.reduceToNat,reduceCtorEq,Int.reduceNeg,TF3,TF4,TF9,TF22,TF24,TF55,TF95,TF98,TF99,TF105,fiL,fiB,berases,bhas];refine⟨_,_,_,opB_callR id (fiL p b T cs ds) (fiL p b (upK Ty.txt T y.type) cs ds) rfl ⟨rfl,rfl,rfl,rfl,trivial⟩ (by simp) (by simp) rfl rfl hal rfl rfl rfl,?_⟩;(try simp -implicitDefEqProofs only [EV,forall_const,implies_true,Nat.reduceAdd,Nat.reduceEqDiff,Nat.reduceBEq,Nat.reduceLeDiff,Nat.reduceSub,Nat.reduceMul,Int.reduceEq,Int.reduceLT,Int.reduceLE,Int.reduceSub,Int.reduceAdd,Int.reduceToNat,reduceCtorEq,Int.reduceNeg,TF3,TF4,TF9,TF22,TF24,TF55,TF95,TF98,TF99,TF105,fiL,fiB,berases,bhas]);apply z;clear z K;try simp only [thenA,blockA,if_true])
  refine u1 _ _ ?_
  clear u1 K1
  (refine lV q2ox fun K z=>?_;refine cl ?_;apply z;clear z K;try simp only [thenA,blockA,if_true])
  exact⟨(),trivial,sS,by simp [ble,bget,fiL,fiB]⟩
abbrev q3ox:List Nat:=[0,1,2,3,4,17,1000000,1000001,1000002,1000003,1500001,1500003,1500006]
theorem ok_once1 (p:Prog)(h:p.Sm)(b:Int)(x:Ty)(hx:x.Sm)(more:Bool)(ts:List Ty)(hts:∀ t,t∈ts→t.txt.length≤sm)(cs:List CallT)(ds:List (Str × Str))(a:Str)(ha:a.length≤sm)(hds:∀ k,k∈ds→k.1.length≤sm∧k.2.length≤sm)(h1:ts.length≤sm)(h2:cs.length≤sm)
  (hfn:(fieldsT p x).length≤sm) (hf:∀ f,f∈fieldsT p x→f.type.Sm∧f.type.tlen≤sm) (hin:(a,[]) ∉ ds) (hb:¬ b < (ts.length:Int)+cs.length) :
  CallB prog 113 [.agg [.d (.str a),.d (.str [])],.clo 115 [.box 1500001 0,.box 1500006 0],.box 1500001 0,.box 1500003 0] (rvB p b x more ts cs ds) (.tuple []) (rvB p b x true (fldX ts (fieldsT p x)) cs (upK id ds (a,[]))):=by
 have hkey:KeyAt prog 165 (.agg [.str a,.str []]):=key_arr arr2 a [] (Nat.le_trans ha (by decide)) (by simp)
 have hks:=dM_keys hds
 have hF:=ok_fiFull p b ts cs ds h1 h2
 have hlk:=look_dM a [] ds
 have hput:=kput_dM a [] ds
 have hfl:=ok_flds p h b x hx ts hts cs (upK id ds (a,[])) hfn hf
 rw [decide_eq_false hin] at hlk
 rw [decide_eq_false hb] at hF
 refine bB func113 ?_
 refine sR q3ox ?_
 (refine sG q3ox [800015] 5 [] fun K z=>?_;simp -implicitDefEqProofs only [EV,forall_const,implies_true,Nat.reduceAdd,Nat.reduceEqDiff,Nat.reduceBEq,Nat.reduceLeDiff,Nat.reduceSub,Nat.reduceMul,Int.reduceEq,Int.reduceLT,Int.reduceLE,Int.reduceSub,Int.reduceAdd,Int.reduceToNat,reduceCtorEq,Int.reduceNeg,TF3,TF4,TF9,TF98,TF103,TF105,TF165,hlk,TKa,TKs,TKk,berases,bhas];refine⟨hks,hkey,?_⟩;(try simp -implicitDefEqProofs only [EV,forall_const,implies_true,Nat.reduceAdd,Nat.reduceEqDiff,Nat.reduceBEq,Nat.reduceLeDiff,Nat.reduceSub,Nat.reduceMul,Int.reduceEq,Int.reduceLT,Int.reduceLE,Int.reduceSub,Int.reduceAdd,Int.reduceToNat,reduceCtorEq,Int.reduceNeg,TF3,TF4,TF9,TF98,TF103,TF105,TF165,hlk,TKa,TKs,TKk,berases,bhas]);refine⟨_,_,_,opB_callR id (fiL p b ts cs ds) (fiL p b ts cs ds) rfl ⟨rfl,rfl,rfl,rfl,trivial⟩ (by simp) (by simp) rfl rfl hF rfl rfl rfl,?_⟩;(try simp -implicitDefEqProofs only [EV,forall_const,implies_true,Nat.reduceAdd,Nat.reduceEqDiff,Nat.reduceBEq,Nat.reduceLeDiff,Nat.reduceSub,Nat.reduceMul,Int.reduceEq,Int.reduceLT,Int.reduceLE,Int.reduceSub,Int.reduceAdd,Int.reduceToNat,reduceCtorEq,Int.reduceNeg,TF3,TF4,TF9,TF98,TF103,TF105,TF165,hlk,TKa,TKs,TKk,berases,bhas]);apply z;clear z K)
 refine AWp.condT rfl ?_
 (refine sG q3ox [] 5 [] fun K z=>?_;simp -implicitDefEqProofs only [EV,forall_const,implies_true,Nat.reduceAdd,Nat.reduceEqDiff,Nat.reduceBEq,Nat.reduceLeDiff,Nat.reduceSub,Nat.reduceMul,Int.reduceEq,Int.reduceLT,Int.reduceLE,Int.reduceSub,Int.reduceAdd,Int.reduceToNat,reduceCtorEq,Int.reduceNeg,TF3,TF4,TF9,TF98,TF103,TF105,TF165,hput,TKa,TKs,TKk];refine⟨hks,hkey,?_⟩;(try simp -implicitDefEqProofs only [EV,forall_const,implies_true,Nat.reduceAdd,Nat.reduceEqDiff,Nat.reduceBEq,Nat.reduceLeDiff,Nat.reduceSub,Nat.reduceMul,Int.reduceEq,Int.reduceLT,Int.reduceLE,Int.reduceSub,Int.reduceAdd,Int.reduceToNat,reduceCtorEq,Int.reduceNeg,TF3,TF4,TF9,TF98,TF103,TF105,TF165,hput,TKa,TKs,TKk]);apply z;clear z K)
 refine sR q3ox ?_
 (refine AWp.lastR q3ox [800024] (by decide +kernel) fun K z=>?_;simp -implicitDefEqProofs only [EV,forall_const,implies_true,Nat.reduceAdd,Nat.reduceEqDiff,Nat.reduceBEq,Nat.reduceLeDiff,Nat.reduceSub,Nat.reduceMul,Int.reduceEq,Int.reduceLT,Int.reduceLE,Int.reduceSub,Int.reduceAdd,Int.reduceToNat,reduceCtorEq,Int.reduceNeg,TF3,TF4,TF9,TF98,TF103,TF105,TF165,berases,bhas];refine⟨_,_,_,opB_callR id ((1500001,.cells [.box 1000000 0])::(1500006,.cells (tyS x))::fiL p b ts cs (upK id ds (a,[]))) ((1500001,.cells [.box 1000000 0])::(1500006,.cells (tyS x))::fiL p b (fldX ts (fieldsT p x)) cs (upK id ds (a,[]))) rfl ⟨rfl,rfl,rfl,rfl,rfl,rfl,trivial⟩ (by simp) (by simp) rfl rfl hfl rfl rfl rfl,?_⟩;(try simp -implicitDefEqProofs only [EV,forall_const,implies_true,Nat.reduceAdd,Nat.reduceEqDiff,Nat.reduceBEq,Nat.reduceLeDiff,Nat.reduceSub,Nat.reduceMul,Int.reduceEq,Int.reduceLT,Int.reduceLE,Int.reduceSub,Int.reduceAdd,Int.reduceToNat,reduceCtorEq,Int.reduceNeg,TF3,TF4,TF9,TF98,TF103,TF105,TF165,berases,bhas]);apply z;clear z K;try simp only [thenA,blockA,if_true])
 exact⟨_,by rw [results113];rfl,.inr rfl,⟨rfl,rfl,rfl,rfl,rfl,rfl,rfl,trivial⟩⟩
set_option maxHeartbeats 1000000
set_option maxHeartbeats 4000000
theorem OpT.toP {P:Program} {o:Oper} {ρ:Rho} {bx bx':Boxes} {r:SV} (h:OpT P o ρ bx r bx' []):OpP P o ρ bx fun r' b'=>r'=r∧b'=bx':=by
 intro C S w β a hi ha
 refine Oper.wpx_mono (h C S w β a hi ha) ?_
 rintro a' w' ⟨v,S',β',q⟩
 exact⟨r,bx',v,S',β',⟨rfl,rfl⟩,q⟩
theorem ok_cloneM {ρ:Shelf.Ren} (L:SlLaysW.n5 prog ρ)(hE:Enters prog (ρ.f 5))(kvs:List (D × D)) :
  CallB prog (ρ.f 5) [.mp 1000000] [(1000000,.map kvs)] (.d (.map kvs)) [(1000000,.map kvs)]:=by
 refine⟨hE,fun C β vs hi hv=>?_⟩
 obtain⟨v,hv1,hv2⟩:=hv.get (j:=0) rfl
 have hl:=hv.1
 have hvs:vs=[v]:=by
  match vs,hl with
  | [u],_=>simp at hv1;rw [hv1]
 subst hvs
 obtain⟨b,es,clock,hb,hh,hm,hr⟩:=hi.box 1000000 (.map kvs) (by simp)
 cases hv2 with
 | mp _ b' hb' =>
  rw [hb] at hb'
  cases hb'
  refine (AnyW.maps_Clone L b es clock C.w0 hh).mono ?_
  rintro e w' ⟨rfl,rfl⟩
  obtain⟨i1,i2⟩:=hi.grow (S':=fun x=>C.S0 x∨x=C.w0.heap.size) (w':=C.w0.alloc (.map es clock)) (fun _ h=>.inl h) (fun x hx=>hx.imp id fun h=>by omega) (fun x hx=>by
   rcases hx with hx | hx
   ·have:=hi.Slt x hx
    simp [-World.alloc_eq,World.alloc];omega
   ·simp [-World.alloc_eq,World.alloc];omega) (fun x hx=>RowKit.Below.heap_alloc _ _ x hx) rfl rfl rfl (by simp [-World.alloc_eq,World.alloc])
  refine⟨.map (some C.w0.heap.size),_,β,rfl,i1,.d _ _ (.map kvs _ es clock (.inr rfl) (World.alloc_heap_new _ _) hm (fun i kv e hk he=>((hr i kv e hk he).1.ext i2)) fun i kv e hk he=>((hr i kv e hk he).2.ext i2))⟩
theorem ok_cloneT (l:List Ty):CallB prog 114 [.mp 1000000] [(1000000,.map (tM l))] (.d (.map (tM l))) [(1000000,.map (tM l))] :=
 ok_cloneM cloneT (Enters.of func114 rfl (by decide)) _
theorem ok_cloneC (l:List CallT):CallB prog 117 [.mp 1000000] [(1000000,.map (cM l))] (.d (.map (cM l))) [(1000000,.map (cM l))] :=
 ok_cloneM cloneC (Enters.of func117 rfl (by decide)) _
theorem TKu:prog.underlying 165=some (.array 2 9):=by kernel_rfl
theorem TKz:tzero prog 165=some [.d (.str []),.d (.str [])]:=by kernel_rfl
theorem arr_ps:∀ (i:Nat)(q:Nat × Nat),[(0,1),(1,1)][i]? = some q→q=(i*1,1):=by
 intro i q hq
 match i with
 | 0 | 1=>simp at hq;rw [← hq]
 | i+2=>simp at hq
abbrev q1px:List Nat:=[0,1,2,3,4,5,6,7,8,15,17,31,33,1000000,1000001,1000002,1000003]
theorem ok_round1 (p:Prog)(b:Int)(x:Ty)(m:Bool)(ds ds':List (Str × Str))
  (hon:CallB prog 113 [.agg [.d (.str x.txt),.d (.str [])],.clo 115 [.box 1500001 0,.box 1500006 0],.box 1500001 0,.box 1500003 0] (rvB p b x false [x] [] ds) (.tuple []) (rvB p b x m [x] [] ds')) :
  CallB prog 57 [.box 1000000 0] (fiL p b [x] [] ds) (boolV m) (fiL p b [x] [] ds'):=by
 have hcT:=ok_cloneT [x]
 have hcC:=ok_cloneC []
 have hu1:prog.underlying 101=some (.map 9 24):=by kernel_rfl
 have hu2:prog.underlying 102=some (.map 9 31):=by kernel_rfl
 have hx0:(tM [x])[0]? = some (.str x.txt,.agg [.str x.name,.slice (tyR x.args),.int .i64 x.pos]):=rfl
 refine bB func57 ?_
 refine sR q1px ?_
 refine sR q1px ?_
 refine sR q1px ?_
 refine sK fun K1 u1=>?_
 (refine AWp.seqR q1px [800014,800015] (by decide +kernel) fun K z=>?_;simp -implicitDefEqProofs only [EV,forall_const,implies_true,Nat.reduceAdd,Nat.reduceEqDiff,Nat.reduceBEq,Nat.reduceLeDiff,Nat.reduceSub,Nat.reduceMul,Int.reduceEq,Int.reduceLT,Int.reduceLE,Int.reduceSub,Int.reduceAdd,Int.reduceToNat,reduceCtorEq,Int.reduceNeg,TF3,TF4,TF9,TF24,TF31,TF98,TF101,TF102,TF105,TF165,fiL,fiB,berases,bhas];refine⟨_,_,_,opB_callR (fun k=>k - 1) [(1000001,.map (tM [x]))] [(1000001,.map (tM [x]))] rfl ⟨rfl,trivial⟩ (by simp) (by simp) rfl rfl hcT rfl rfl rfl,?_⟩;(try simp -implicitDefEqProofs only [EV,forall_const,implies_true,Nat.reduceAdd,Nat.reduceEqDiff,Nat.reduceBEq,Nat.reduceLeDiff,Nat.reduceSub,Nat.reduceMul,Int.reduceEq,Int.reduceLT,Int.reduceLE,Int.reduceSub,Int.reduceAdd,Int.reduceToNat,reduceCtorEq,Int.reduceNeg,TF3,TF4,TF9,TF24,TF31,TF98,TF101,TF102,TF105,TF165,fiL,fiB,berases,bhas]);refine⟨_,_,_,opB_range (by decide) rfl hu1,?_⟩;(try simp -implicitDefEqProofs only [EV,forall_const,implies_true,Nat.reduceAdd,Nat.reduceEqDiff,Nat.reduceBEq,Nat.reduceLeDiff,Nat.reduceSub,Nat.reduceMul,Int.reduceEq,Int.reduceLT,Int.reduceLE,Int.reduceSub,Int.reduceAdd,Int.reduceToNat,reduceCtorEq,Int.reduceNeg,TF3,TF4,TF9,TF24,TF31,TF98,TF101,TF102,TF105,TF165,fiL,fiB,berases,bhas]);apply z;clear z K)
 refine AWp.block (AWp.loop (X:=Bool) (fun _=>[(1,.box 1 0),(3,.box 3 0),(4,.clo 113 [.box 1 0,.box 3 0]),(15,.box 15 0)])
  (fun d=>(1,.cells [.box 1000000 0])::(3,.cells [.d (.bool (match d with | false=>false | true=>m))])::(15,.iter (tM [x]) (match d with | false=>[] | true=>[0]))::fiL p b [x] [] (match d with | false=>ds | true=>ds'))
  (fun _=>True) (fun d=>match d with | false=>1 | true=>0) false trivial sS (by simp [ble,bget,fiL,fiB]) ?_)
 rintro d _
 cases d with
 | true =>
  refine AWp.seqCP [1,3,4,15,17,1000000,1000001,1000002,1000003] [] 0 _ rfl rfl (by decide +kernel) fun K hK=>?_
  simp only [List.take_zero]
  simp -implicitDefEqProofs only [EV,forall_const,implies_true,Nat.reduceAdd,Nat.reduceEqDiff,Nat.reduceBEq,Nat.reduceLeDiff,Nat.reduceSub,Nat.reduceMul,Int.reduceEq,Int.reduceLT,Int.reduceLE,Int.reduceSub,Int.reduceAdd,Int.reduceToNat,reduceCtorEq,Int.reduceNeg,TF3,TF4,TF9,TF24,TF31,TF98,TF101,TF102,TF105,TF165,fiL,fiB]
  refine⟨_,opP_next rfl rfl (mem_of_bget rfl),?_⟩
  rintro r bx2 (⟨rfl,rfl,hall⟩ | ⟨i,kv,hkv,hns,rfl,rfl⟩)
  ·simp only [List.getElem_toArray,List.getElem_cons_zero,List.drop_succ_cons,List.drop_zero]
   simp -implicitDefEqProofs only [EV,forall_const,implies_true,Nat.reduceAdd,Nat.reduceEqDiff,Nat.reduceBEq,Nat.reduceLeDiff,Nat.reduceSub,Nat.reduceMul,Int.reduceEq,Int.reduceLT,Int.reduceLE,Int.reduceSub,Int.reduceAdd,Int.reduceToNat,reduceCtorEq,Int.reduceNeg,TF3,TF4,TF9,TF24,TF31,TF98,TF101,TF102,TF105,TF165,fiL,fiB]
   refine hK _ _ ?_
   clear hK K
   refine AWp.stop rfl ?_
   simp only [thenA,blockA,if_true]
   refine u1 _ _ ?_
   clear u1 K1
   refine sR q1px ?_
   exact AWp.ret ⟨_,by rw [results57];rfl,.inr rfl,by simp [ble,bget,fiL,fiB]⟩
  ·exfalso
   have:i < 1:=(List.getElem?_eq_some_iff.1 hkv).1
   obtain rfl:i=0:=by omega
   exact hns (by simp)
 | false =>
  refine AWp.seqCP [1,3,4,15,17,1000000,1000001,1000002,1000003] [] 0 _ rfl rfl (by decide +kernel) fun K hK=>?_
  simp only [List.take_zero]
  simp -implicitDefEqProofs only [EV,forall_const,implies_true,Nat.reduceAdd,Nat.reduceEqDiff,Nat.reduceBEq,Nat.reduceLeDiff,Nat.reduceSub,Nat.reduceMul,Int.reduceEq,Int.reduceLT,Int.reduceLE,Int.reduceSub,Int.reduceAdd,Int.reduceToNat,reduceCtorEq,Int.reduceNeg,TF3,TF4,TF9,TF24,TF31,TF98,TF101,TF102,TF105,TF165,fiL,fiB]
  refine⟨_,opP_next rfl rfl (mem_of_bget rfl),?_⟩
  rintro r bx2 (⟨rfl,rfl,hall⟩ | ⟨i,kv,hkv,hns,rfl,rfl⟩)
  ·exact absurd (hall 0 (by simp [tM_len])) (by simp)
  obtain rfl:i=0:=by
   have:i < 1:=(List.getElem?_eq_some_iff.1 hkv).1
   omega
  rw [hx0] at hkv
  obtain rfl:=Option.some.inj hkv
  simp only [List.getElem_toArray,List.getElem_cons_zero,List.drop_succ_cons,List.drop_zero]
  simp -implicitDefEqProofs only [EV,forall_const,implies_true,Nat.reduceAdd,Nat.reduceEqDiff,Nat.reduceBEq,Nat.reduceLeDiff,Nat.reduceSub,Nat.reduceMul,Int.reduceEq,Int.reduceLT,Int.reduceLE,Int.reduceSub,Int.reduceAdd,Int.reduceToNat,reduceCtorEq,Int.reduceNeg,TF3,TF4,TF9,TF24,TF31,TF98,TF101,TF102,TF105,TF165,fiL,fiB,ofD,List.map_cons,List.map_nil]
  refine hK _ _ ?_
  clear hK K
  refine AWp.goOn rfl ?_
  refine AWp.block ?_
  (refine AWp.seqR q1px [800018] (by decide +kernel) fun K z=>?_;simp -implicitDefEqProofs only [EV,forall_const,implies_true,Nat.reduceAdd,Nat.reduceEqDiff,Nat.reduceBEq,Nat.reduceLeDiff,Nat.reduceSub,Nat.reduceMul,Int.reduceEq,Int.reduceLT,Int.reduceLE,Int.reduceSub,Int.reduceAdd,Int.reduceToNat,reduceCtorEq,Int.reduceNeg,TF3,TF4,TF9,TF24,TF31,TF98,TF101,TF102,TF105,TF165,ofD,List.map_cons,List.map_nil];refine⟨_,_,_,opB_entry rfl (mem_of_bget rfl) hx0,?_⟩;(try simp -implicitDefEqProofs only [EV,forall_const,implies_true,Nat.reduceAdd,Nat.reduceEqDiff,Nat.reduceBEq,Nat.reduceLeDiff,Nat.reduceSub,Nat.reduceMul,Int.reduceEq,Int.reduceLT,Int.reduceLE,Int.reduceSub,Int.reduceAdd,Int.reduceToNat,reduceCtorEq,Int.reduceNeg,TF3,TF4,TF9,TF24,TF31,TF98,TF101,TF102,TF105,TF165,ofD,List.map_cons,List.map_nil]);apply z;clear z K)
  refine AWp.seqCP [1,3,4,5,6,15,1000000,1000001,1000002,1000003] [800025] 2 _ rfl rfl (by decide +kernel) fun K hK=>?_
  simp only [List.take_succ_cons,List.take_zero]
  simp -implicitDefEqProofs only [EV,forall_const,implies_true,Nat.reduceAdd,Nat.reduceEqDiff,Nat.reduceBEq,Nat.reduceLeDiff,Nat.reduceSub,Nat.reduceMul,Int.reduceEq,Int.reduceLT,Int.reduceLE,Int.reduceSub,Int.reduceAdd,Int.reduceToNat,reduceCtorEq,Int.reduceNeg,TF3,TF4,TF9,TF24,TF31,TF98,TF101,TF102,TF105,TF165,fiL,fiB]
  refine⟨_,(opT_buildArr rfl TKu TF9.2.1 TKz arr_ps rfl rfl rfl).toP,?_⟩
  rintro r bx2 ⟨rfl,rfl⟩
  simp only [List.getElem_toArray,List.getElem_cons_succ,List.getElem_cons_zero,List.drop_succ_cons,List.drop_zero]
  simp -implicitDefEqProofs only [EV,forall_const,implies_true,Nat.reduceAdd,Nat.reduceEqDiff,Nat.reduceBEq,Nat.reduceLeDiff,Nat.reduceSub,Nat.reduceMul,Int.reduceEq,Int.reduceLT,Int.reduceLE,Int.reduceSub,Int.reduceAdd,Int.reduceToNat,reduceCtorEq,Int.reduceNeg,TF3,TF4,TF9,TF24,TF31,TF98,TF101,TF102,TF105,TF165,fiL,fiB]
  refine⟨_,_,_,opB_callR (fun k=>if k < 1000000 then k+1500000 else k) ((1,.cells [.box 1000000 0])::(3,.cells [.d (.bool false)])::(6,.cells (tyS x))::fiL p b [x] [] ds) ((1,.cells [.box 1000000 0])::(3,.cells [.d (.bool m)])::(6,.cells (tyS x))::fiL p b [x] [] ds') rfl ⟨rfl,rfl,rfl,rfl,rfl,rfl,rfl,trivial⟩ (by simp) (by simp) rfl rfl hon rfl rfl rfl,?_⟩
  simp -implicitDefEqProofs only [EV,forall_const,implies_true,Nat.reduceAdd,Nat.reduceEqDiff,Nat.reduceBEq,Nat.reduceLeDiff,Nat.reduceSub,Nat.reduceMul,Int.reduceEq,Int.reduceLT,Int.reduceLE,Int.reduceSub,Int.reduceAdd,Int.reduceToNat,reduceCtorEq,Int.reduceNeg,TF3,TF4,TF9,TF24,TF31,TF98,TF101,TF102,TF105,TF165,berases,bhas,List.cons_append,List.nil_append]
  refine hK _ _ ?_
  clear hK K
  (refine AWp.seqR q1px [800030,800031] (by decide +kernel) fun K z=>?_;simp -implicitDefEqProofs only [EV,forall_const,implies_true,Nat.reduceAdd,Nat.reduceEqDiff,Nat.reduceBEq,Nat.reduceLeDiff,Nat.reduceSub,Nat.reduceMul,Int.reduceEq,Int.reduceLT,Int.reduceLE,Int.reduceSub,Int.reduceAdd,Int.reduceToNat,reduceCtorEq,Int.reduceNeg,TF3,TF4,TF9,TF24,TF31,TF98,TF101,TF102,TF105,TF165,fiL,fiB,berases,bhas];refine⟨_,_,_,opB_callR (fun k=>k - 2) [(1000002,.map (cM []))] [(1000002,.map (cM []))] rfl ⟨rfl,trivial⟩ (by simp) (by simp) rfl rfl hcC rfl rfl rfl,?_⟩;(try simp -implicitDefEqProofs only [EV,forall_const,implies_true,Nat.reduceAdd,Nat.reduceEqDiff,Nat.reduceBEq,Nat.reduceLeDiff,Nat.reduceSub,Nat.reduceMul,Int.reduceEq,Int.reduceLT,Int.reduceLE,Int.reduceSub,Int.reduceAdd,Int.reduceToNat,reduceCtorEq,Int.reduceNeg,TF3,TF4,TF9,TF24,TF31,TF98,TF101,TF102,TF105,TF165,fiL,fiB,berases,bhas]);refine⟨_,_,_,opB_range (by decide) rfl hu2,?_⟩;(try simp -implicitDefEqProofs only [EV,forall_const,implies_true,Nat.reduceAdd,Nat.reduceEqDiff,Nat.reduceBEq,Nat.reduceLeDiff,Nat.reduceSub,Nat.reduceMul,Int.reduceEq,Int.reduceLT,Int.reduceLE,Int.reduceSub,Int.reduceAdd,Int.reduceToNat,reduceCtorEq,Int.reduceNeg,TF3,TF4,TF9,TF24,TF31,TF98,TF101,TF102,TF105,TF165,fiL,fiB,berases,bhas]);apply z;clear z K)
  refine AWp.block (AWp.loop (X:=Unit) (fun _=>[(1,.box 1 0),(3,.box 3 0),(4,.clo 113 [.box 1 0,.box 3 0]),(15,.box 15 0),(31,.box 31 0)])
   (fun _=>(1,.cells [.box 1000000 0])::(3,.cells [.d (.bool m)])::(15,.iter (tM [x]) [0])::(31,.iter (cM []) [])::fiL p b [x] [] ds') (fun _=>True) (fun _=>0) () trivial sS (by simp [ble,bget,fiL,fiB]) ?_)
  rintro _ _
  refine AWp.seqCP [1,3,4,15,31,33,1000000,1000001,1000002,1000003] [] 0 _ rfl rfl (by decide +kernel) fun K hK=>?_
  simp only [List.take_zero]
  simp -implicitDefEqProofs only [EV,forall_const,implies_true,Nat.reduceAdd,Nat.reduceEqDiff,Nat.reduceBEq,Nat.reduceLeDiff,Nat.reduceSub,Nat.reduceMul,Int.reduceEq,Int.reduceLT,Int.reduceLE,Int.reduceSub,Int.reduceAdd,Int.reduceToNat,reduceCtorEq,Int.reduceNeg,TF3,TF4,TF9,TF24,TF31,TF98,TF101,TF102,TF105,TF165,fiL,fiB]
  refine⟨_,opP_next rfl rfl (mem_of_bget rfl),?_⟩
  rintro r bx2 (⟨rfl,rfl,hall⟩ | ⟨i,kv,hkv,hns,rfl,rfl⟩)
  ·simp only [List.getElem_toArray,List.getElem_cons_zero,List.drop_succ_cons,List.drop_zero]
   simp -implicitDefEqProofs only [EV,forall_const,implies_true,Nat.reduceAdd,Nat.reduceEqDiff,Nat.reduceBEq,Nat.reduceLeDiff,Nat.reduceSub,Nat.reduceMul,Int.reduceEq,Int.reduceLT,Int.reduceLE,Int.reduceSub,Int.reduceAdd,Int.reduceToNat,reduceCtorEq,Int.reduceNeg,TF3,TF4,TF9,TF24,TF31,TF98,TF101,TF102,TF105,TF165,fiL,fiB]
   refine hK _ _ ?_
   clear hK K
   refine AWp.stop rfl ?_
   simp only [thenA,blockA,if_true]
   exact⟨true,trivial,by decide,sS,by simp [ble,bget,fiL,fiB]⟩
  ·exact absurd (List.getElem?_eq_some_iff.1 hkv).1 (by simp [cM_len])
end Go.Abs
