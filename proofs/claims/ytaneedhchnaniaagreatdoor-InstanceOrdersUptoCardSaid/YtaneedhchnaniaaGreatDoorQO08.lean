/- maps.Values, slices.AppendSeq, Collect, SortedFunc for maps with at most one entry -/
import Derived.Test.YtaneedhchnaniaaGreatDoorQO04
import Derived.Test.YtaneedhchnaniaaGreatDoorQO05
import Derived.Test.YtaneedhchnaniaaGreatDoorQW21
import Derived.Test.YtaneedhchnaniaaGreatDoorQW23
import Derived.Test.YtaneedhchnaniaaGreatDoorQS18
namespace Go.Abs
set_option maxHeartbeats 1000000
set_option linter.unusedSimpArgs false
set_option linter.unusedVariables false
open Go Go.Proofs Tryz
set_option maxRecDepth 100000
set_option maxHeartbeats 4000000
theorem ok_ValT (kvs:List (D × D)):CallB prog 60 [.d (.map kvs)] [] (.clo 122 [.dptr [.map kvs] 0]) []:=by
 refine bB func60 ?_
 refine sR [0,1,2] ?_
 refine AWp.freeze 1 rfl rfl ?_
 refine sR [0,1,2] ?_
 exact AWp.ret ⟨_,by rw [results60];rfl,.inr rfl,by simp [ble,bget]⟩
theorem ok_ValC (kvs:List (D × D)):CallB prog 62 [.d (.map kvs)] [] (.clo 124 [.dptr [.map kvs] 0]) []:=by
 refine bB func62 ?_
 refine sR [0,1,2] ?_
 refine AWp.freeze 1 rfl rfl ?_
 refine sR [0,1,2] ?_
 exact AWp.ret ⟨_,by rw [results62];rfl,.inr rfl,by simp [ble,bget]⟩
theorem ok_ValT1 (x:Ty)(Y:Yld)(hP:Y.P=prog)(hN:Y.N=1)(hxs:Y.xs 0=tyV x)(hgo:Y.go 0=true) :
  CallB prog 122 [.yld Y.l,.dptr [.map (tM [x])] 0] [(1000000,.ghost Y (some 0))] (.tuple []) [(1000000,.ghost Y (some 1))]:=by
 have hu1:prog.underlying 101=some (.map 9 24):=by kernel_rfl
 have hx0:(tM [x])[0]? = some (.str x.txt,.agg [.str x.name,.slice (tyR x.args),.int .i64 x.pos]):=rfl
 have hnx:Y.next 0=some 1:=by unfold Yld.next;rw [if_pos hgo]
 have hN0:0 < Y.N:=by omega
 refine bB func122 ?_
 (refine AWp.seqR [0,1,4,6,8,14,1000000] [800006] (by decide +kernel) fun K z=>?_;refine ev ?_;refine⟨_,_,_,opB_range (by decide) rfl hu1,?_⟩;(try refine ev ?_);apply z;clear z K)
 refine AWp.block (AWp.loop (X:=Bool) (fun _=>[(0,.yld Y.l),(6,.box 6 0)])
  (fun d=>[(6,.iter (tM [x]) (match d with | false=>[] | true=>[0])),(1000000,.ghost Y (some (match d with | false=>0 | true=>1)))])
  (fun _=>True) (fun d=>match d with | false=>1 | true=>0) false trivial sS sB ?_)
 rintro d _
 cases d with
 | true =>
  refine AWp.seqCP [0,6,8,1000000] [] 0 _ rfl rfl (by decide +kernel) fun K hK=>?_
  simp only [List.take_zero]
  refine ev ?_
  refine⟨_,opP_next rfl rfl (mem_of_bget rfl),?_⟩
  rintro r bx2 (⟨rfl,rfl,hall⟩ | ⟨i,kv,hkv,hns,rfl,rfl⟩)
  ·simp only [List.getElem_toArray,List.getElem_cons_zero,List.drop_succ_cons,List.drop_zero]
   refine ev ?_
   refine hK _ _ ?_
   clear hK K
   refine AWp.stop rfl ?_
   simp only [thenA,blockA,if_true]
   exact⟨_,by rw [results122];rfl,.inr rfl,by simp [ble,bget]⟩
  ·exfalso
   have:i < 1:=(List.getElem?_eq_some_iff.1 hkv).1
   obtain rfl:i=0:=by omega
   exact hns (by simp)
 | false =>
  refine AWp.seqCP [0,6,8,1000000] [] 0 _ rfl rfl (by decide +kernel) fun K hK=>?_
  simp only [List.take_zero]
  refine ev ?_
  refine⟨_,opP_next rfl rfl (mem_of_bget rfl),?_⟩
  rintro r bx2 (⟨rfl,rfl,hall⟩ | ⟨i,kv,hkv,hns,rfl,rfl⟩)
  ·exact absurd (hall 0 (by simp [tM_len])) (by simp)
  obtain rfl:i=0:=by
   have:i < 1:=(List.getElem?_eq_some_iff.1 hkv).1
   omega
  rw [hx0] at hkv
  obtain rfl:=Option.some.inj hkv
  simp only [List.getElem_toArray,List.getElem_cons_zero,List.drop_succ_cons,List.drop_zero]
  simp -implicitDefEqProofs only [EV,forall_const,implies_true,Nat.reduceAdd,Nat.reduceEqDiff,Nat.reduceBEq,Nat.reduceLeDiff,Nat.reduceSub,Nat.reduceMul,Int.reduceEq,Int.reduceLT,Int.reduceLE,Int.reduceSub,Int.reduceAdd,Int.reduceToNat,reduceCtorEq,Int.reduceNeg,TF3,TF4,TF9,TF24,TF101,ofD,List.map_cons,List.map_nil]
  refine hK _ _ ?_
  clear hK K
  refine AWp.goOn rfl ?_
  refine AWp.block ?_
  (refine AWp.seqR [0,1,4,6,8,14,1000000] [800009] (by decide +kernel) fun K z=>?_;simp -implicitDefEqProofs only [EV,forall_const,implies_true,Nat.reduceAdd,Nat.reduceEqDiff,Nat.reduceBEq,Nat.reduceLeDiff,Nat.reduceSub,Nat.reduceMul,Int.reduceEq,Int.reduceLT,Int.reduceLE,Int.reduceSub,Int.reduceAdd,Int.reduceToNat,reduceCtorEq,Int.reduceNeg,TF3,TF4,TF9,TF24,TF101,ofD,List.map_cons,List.map_nil];refine⟨_,_,_,opB_entry rfl (mem_of_bget rfl) hx0,?_⟩;(try simp -implicitDefEqProofs only [EV,forall_const,implies_true,Nat.reduceAdd,Nat.reduceEqDiff,Nat.reduceBEq,Nat.reduceLeDiff,Nat.reduceSub,Nat.reduceMul,Int.reduceEq,Int.reduceLT,Int.reduceLE,Int.reduceSub,Int.reduceAdd,Int.reduceToNat,reduceCtorEq,Int.reduceNeg,TF3,TF4,TF9,TF24,TF101,ofD,List.map_cons,List.map_nil]);apply z;clear z K)
  (refine AWp.seqR [0,1,4,6,8,14,1000000] [700013] (by decide +kernel) fun K z=>?_;refine ev2 hgo hnx ?_;refine⟨_,rfl,hP,hN0,hxs,?_⟩;(try refine ev2 hgo hnx ?_);apply z;clear z K)
  refine AWp.condF rfl (AWp.skip ?_)
  exact⟨true,trivial,by decide,sS,by simp [ble,bget]⟩
theorem ok_ValC0 (Y:Yld):CallB prog 124 [.yld Y.l,.dptr [.map (cM [])] 0] [(1000000,.ghost Y (some 0))] (.tuple []) [(1000000,.ghost Y (some 0))]:=by
 have hu1:prog.underlying 102=some (.map 9 31):=by kernel_rfl
 refine bB func124 ?_
 (refine AWp.seqR [0,1,4,6,8,14,1000000] [800006] (by decide +kernel) fun K z=>?_;refine ev ?_;refine⟨_,_,_,opB_range (by decide) rfl hu1,?_⟩;(try refine ev ?_);apply z;clear z K)
 refine AWp.block (AWp.loop (X:=Unit) (fun _=>[(0,.yld Y.l),(6,.box 6 0)]) (fun _=>[(6,.iter (cM []) []),(1000000,.ghost Y (some 0))]) (fun _=>True) (fun _=>0) () trivial sS sB ?_)
 rintro _ _
 refine AWp.seqCP [0,6,8,1000000] [] 0 _ rfl rfl (by decide +kernel) fun K hK=>?_
 simp only [List.take_zero]
 refine ev ?_
 refine⟨_,opP_next rfl rfl (mem_of_bget rfl),?_⟩
 rintro r bx2 (⟨rfl,rfl,hall⟩ | ⟨i,kv,hkv,hns,rfl,rfl⟩)
 ·simp only [List.getElem_toArray,List.getElem_cons_zero,List.drop_succ_cons,List.drop_zero]
  refine ev ?_
  refine hK _ _ ?_
  clear hK K
  refine AWp.stop rfl ?_
  simp only [thenA,blockA,if_true]
  exact⟨_,by rw [results124];rfl,.inr rfl,by simp [ble,bget]⟩
 ·exact absurd (List.getElem?_eq_some_iff.1 hkv).1 (by simp [cM_len])
abbrev q1xx:List Nat:=[0,1,2,4,5,6,7,900,2000002]
theorem ok_AppT (x:Ty):CallB prog 191 [.d .nil,.clo 122 [.dptr [.map (tM [x])] 0]] [] (.acc 900) [(900,.rows 3 [tyC x])]:=by
 refine bB func191 ?_
 refine sR q1xx ?_
 refine AWp.promoteBox 900 3 2 0 rfl rfl (by decide) ?_
 refine kR q1xx fun K1 u1=>?_
 refine AWp.block (AWp.rangeFunc (caps:=[.dptr [.map (tM [x])] 0]) (caps':=[.dptr [.map (tM [x])] 0]) (f:=122) (r:=.tuple []) (N:=1) (xs:=fun _=>tyV x) (go:=fun _=>true) (jump:=.ret) (ks:=[2000002,900]) (slR:=[(2,.box 2000002 0)])
  (mb:=fun st=>match st with | some j=>[(2000002,.cells [.acc 900]),(900,.rows 3 (match j with | 0=>[] | _=>[tyC x]))] | none=>[]) (st:=some 1) ⟨⟨_,rfl⟩,by decide,by decide,rfl,fun st=>by cases st <;> rfl,by decide,fun _=>rfl,?_⟩ (fun st=>by cases st <;> simp) rfl rfl ?_ ⟨.inr (.inl rfl),trivial⟩ ⟨rfl,rfl,trivial⟩ ?_ ?_)
 ·intro j hj hgo l
  obtain rfl:j=0:=by omega
  (refine lV q1xx fun K z=>?_;apply z;clear z K;try simp only [thenA,blockA,if_true])
  refine⟨rfl,?_⟩
  refine AWp.block ?_
  (refine AWp.lastGZ [0,1,2,4,5,6,7,900,2000002] [] 8 3 22 24 [⟨[],[],[],[]⟩,⟨[],[],[],[]⟩,⟨[],[],[],[]⟩,⟨[],[],[],[]⟩,⟨[900,2000002],[900,2000002],[],[]⟩,⟨[],[],[2000002],[]⟩,⟨[900],[],[2000002],[]⟩,⟨[2000002],[],[900],[]⟩] mixed (by decide +kernel) (by decide +kernel) _ rfl rfl rfl rfl rfl (by simp only [TF22]) (by simp only [TF24]) (by simp only [TF24];rfl) fun K z=>?_;refine ev ?_;refine⟨by simp,by simp [lim],?_⟩;(try refine ev ?_);refine⟨by omega,zTyW,tyC x,rfl,rfl,by decide,?_⟩;(try refine ev ?_);apply z;clear z K;try simp only [thenA,blockA,if_true])
  exact⟨rfl,by simp [ble,bget,tyC,setAll]⟩
 ·intro Y hP hN hxs hg
  exact ok_ValT1 x Y hP hN (by rw [hxs]) (by rw [hg])
 ·intro j hj _
  obtain rfl:=Option.some.inj hj
  simp only [thenA,blockA,if_true]
  refine u1 _ _ (wk [(2,.box 2 0)] [(2,.cells [.acc 900]),(900,.rows 3 [tyC x])] ?_)
  refine sR q1xx ?_
  exact AWp.ret ⟨_,by rw [results191];rfl,.inl rfl,by simp [ble,bget,tyC]⟩
 ·intro hj;cases hj
abbrev q2xx:List Nat:=[0,1,2,4,5,6,7,900,2000002]
theorem ok_AppC:CallB prog 193 [.d .nil,.clo 124 [.dptr [.map (cM [])] 0]] [] (.acc 900) [(900,.rows 5 [])]:=by
 refine bB func193 ?_
 refine sR q2xx ?_
 refine AWp.promoteBox 900 5 2 0 rfl rfl (by decide) ?_
 refine kR q2xx fun K1 u1=>?_
 refine AWp.block (AWp.rangeFunc (caps:=[.dptr [.map (cM [])] 0]) (caps':=[.dptr [.map (cM [])] 0]) (f:=124) (r:=.tuple []) (N:=0) (xs:=fun _=>intV 0) (go:=fun _=>true) (jump:=.ret) (ks:=[2000002,900]) (slR:=[(2,.box 2000002 0)])
  (mb:=fun st=>match st with | some j=>[(2000002,.cells [.acc 900]),(900,.rows 5 [])] | none=>[]) (st:=some 0) ⟨⟨_,rfl⟩,by decide,by decide,rfl,fun st=>by cases st <;> rfl,by decide,fun _=>rfl,?_⟩ (fun st=>by cases st <;> simp) rfl rfl ?_ ⟨.inr (.inl rfl),trivial⟩ ⟨rfl,rfl,trivial⟩ ?_ ?_)
 ·intro j hj
  omega
 ·intro Y hP hN hxs hg
  exact ok_ValC0 Y
 ·intro j hj _
  obtain rfl:=Option.some.inj hj
  simp only [thenA,blockA,if_true]
  refine u1 _ _ (wk [(2,.box 2 0)] [(2,.cells [.acc 900]),(900,.rows 5 [])] ?_)
  refine sR q2xx ?_
  exact AWp.ret ⟨_,by rw [results193];rfl,.inl rfl,by simp [ble,bget]⟩
 ·intro hj;cases hj
theorem ok_ColT (x:Ty):CallB prog 120 [.clo 122 [.dptr [.map (tM [x])] 0]] [] (.acc 4) [(4,.rows 3 [tyC x])]:=by
 have hA:=ok_AppT x
 refine bB func120 ?_
 refine sR [0,2,4] ?_
 (refine AWp.seqR [0,2,4] [800004] (by decide +kernel) fun K z=>?_;refine ev ?_;refine⟨_,_,_,opB_call1 4 rfl rfl rfl hA rfl (by decide) rfl,?_⟩;simp only [SV.ren,one1,if_true];(try refine ev ?_);apply z;clear z K)
 exact AWp.ret ⟨_,by rw [results120];rfl,.inl rfl,by simp [ble,bget,tyC]⟩
theorem ok_ColC:CallB prog 123 [.clo 124 [.dptr [.map (cM [])] 0]] [] (.acc 4) [(4,.rows 5 [])]:=by
 have hA:=ok_AppC
 refine bB func123 ?_
 refine sR [0,2,4] ?_
 (refine AWp.seqR [0,2,4] [800004] (by decide +kernel) fun K z=>?_;refine ev ?_;refine⟨_,_,_,opB_call1 4 rfl rfl rfl hA rfl (by decide) rfl,?_⟩;simp only [SV.ren,one1,if_true];(try refine ev ?_);apply z;clear z K)
 exact AWp.ret ⟨_,by rw [results123];rfl,.inl rfl,by simp [ble,bget]⟩
theorem ok_SortedT (x:Ty)(hx:x.Sm):CallOK prog 59 [.clo 122 [.dptr [.map (tM [x])] 0],.clo 25 []] (.d (.slice (tyR [x]))):=by
 have hC:=ok_ColT x
 refine cB func59 ?_
 refine sR [0,1,4,5,7] ?_
 (refine AWp.seqR [0,1,4,5,7] [800007] (by decide +kernel) fun K z=>?_;refine ev ?_;refine⟨_,_,_,opB_call1 7 rfl rfl rfl hC rfl (by decide) rfl,?_⟩;simp only [SV.ren,one1,if_true];(try refine ev ?_);apply z;clear z K)
 refine AWp.seqCP [5,7] [] 2 _ rfl rfl (by decide +kernel) fun K hK=>?_
 simp only [List.take_succ_cons,List.take_zero]
 refine ev ?_
 refine⟨_,opP_sortT 7 [x] rfl rfl rfl (by rw [tyR_cons,tyR_nil];rfl) (by simp [sm]) (by simpa using hx),?_⟩
 rintro r bx2 ⟨rfl,l',hp,hs,rfl⟩
 obtain rfl:=List.perm_singleton.1 hp
 simp only [List.getElem_toArray,List.getElem_cons_succ,List.getElem_cons_zero,List.drop_succ_cons,List.drop_zero]
 refine ev ?_
 refine hK _ _ ?_
 clear hK K
 refine sR [0,1,4,5,7] ?_
 exact aR
theorem ok_SortedC:CallOK prog 61 [.clo 124 [.dptr [.map (cM [])] 0],.clo 8 []] (.d (.slice (caR []))):=by
 have hC:=ok_ColC
 refine cB func61 ?_
 refine sR [0,1,4,5,7] ?_
 (refine AWp.seqR [0,1,4,5,7] [800007] (by decide +kernel) fun K z=>?_;refine ev ?_;refine⟨_,_,_,opB_call1 7 rfl rfl rfl hC rfl (by decide) rfl,?_⟩;simp only [SV.ren,one1,if_true];(try refine ev ?_);apply z;clear z K)
 refine AWp.seqCP [5,7] [] 2 _ rfl rfl (by decide +kernel) fun K hK=>?_
 simp only [List.take_succ_cons,List.take_zero]
 refine ev ?_
 refine⟨_,opP_sortC 7 [] rfl rfl rfl rfl (by simp [sm]) (by simp),?_⟩
 rintro r bx2 ⟨rfl,l',hp,hs,rfl⟩
 obtain rfl:=List.perm_nil.1 hp
 simp only [List.getElem_toArray,List.getElem_cons_succ,List.getElem_cons_zero,List.drop_succ_cons,List.drop_zero]
 refine ev ?_
 refine hK _ _ ?_
 clear hK K
 refine sR [0,1,4,5,7] ?_
 exact aR
set_option maxHeartbeats 1000000
set_option maxHeartbeats 4000000
abbrev gF (k:Nat):Nat:=if k=15 then 1000000 else k+999990
abbrev fiF (p:Prog)(b:Int)(ts:List Ty)(cs:List CallT)(ds:List (Str × Str)):Boxes:=fiB 15 11 12 13 p b ts cs ds
abbrev q1Zx:List Nat:=[0,1,2,4,5,6,11,12,13,15,21,23,25]
theorem ok_Find1 (p:Prog)(h:p.Sm)(n:Int)(hn:1≤n)(x:Ty)(hx:x.Sm)(hxt:x.tlen≤sm)(e:Ex)(he:listE p.main=[e])(hk:e.kind=3)(het:e.type=x)(hf:fieldsT p x=[]) :
  CallOK prog 20 [prV p,intV n] (.tuple [insV [x] [],boolV true]):=by
 have hNew:=ok_New p h
 have htx:x.txt.length≤sm:=by have:=Ty.txt_len x;omega
 have hnd:=ok_fiNeeds p n [] p.main [] (fun _=>none) (fun y hy=>by
  rw [he,List.mem_singleton] at hy
  subst hy
  exact⟨fun _=>by rw [het];exact⟨hx,hxt⟩,fun h2=>by omega⟩) ([],[]) ⟨by simp,by simp⟩
 have hndL:needL (fun _=>none) ([],[]) (listE p.main)=([x],[]):=by rw [he];simp [needL,needX,hk,het,upK]
 rw [hndL] at hnd
 simp only [show paR []=[] from rfl] at hnd
 have ho1:=ok_once1 p h n x hx false [x] (by simpa using htx) [] [] x.txt htx (by simp) (by simp [sm]) (by simp [sm]) (by simp [hf]) (by simp [hf]) (by simp) (by simp;omega)
 rw [hf] at ho1
 have hr1:=ok_round1 p n x true [] [(x.txt,[])] ho1
 have ho2:=ok_once0 p n x false [x] [] [(x.txt,[])] x.txt htx (by simp [htx]) (by simp [sm]) (by simp [sm]) (.inl (by simp))
 have hr2:=ok_round1 p n x false [(x.txt,[])] [(x.txt,[])] ho2
 have hF:∀ ds,CallB prog 58 [.box 1000000 0] (fiL p n [x] [] ds) (boolV false) (fiL p n [x] [] ds):=fun ds=>by
  have:=ok_fiFull p n [x] [] ds (by simp [sm]) (by simp [sm])
  rwa [decide_eq_false (by simp;omega)] at this
 have hVT:=ok_ValT (tM [x])
 have hVC:=ok_ValC (cM [])
 have hST:=ok_SortedT x hx
 have hSC:=ok_SortedC
 refine cB func20 ?_
 refine sR q1Zx ?_
 (refine sG q1Zx [] 7 [⟨[],[],[11,12,13],[11,12,13]⟩,⟨[],[],[11,12,13],[11,12,13]⟩,⟨[],[],[11,12,13],[11,12,13]⟩,⟨[],[],[11,12,13],[11,12,13]⟩,⟨[11],[11],[12,13],[12,13]⟩,⟨[12],[12],[11,13],[11,13]⟩,⟨[13],[13],[11,12],[11,12]⟩] fun K z=>?_;refine ev ?_;refine cc hNew ?_;apply z;clear z K)
 (refine AWp.seqR q1Zx [800019] (by decide +kernel) fun K z=>?_;simp -implicitDefEqProofs only [EV,forall_const,implies_true,Nat.reduceAdd,Nat.reduceEqDiff,Nat.reduceBEq,Nat.reduceLeDiff,Nat.reduceSub,Nat.reduceMul,Int.reduceEq,Int.reduceLT,Int.reduceLE,Int.reduceSub,Int.reduceAdd,Int.reduceToNat,reduceCtorEq,Int.reduceNeg,TF3,TF4,TF9,TF36,TF41,TF43,TF101,TF102,TF103,TF105,berases,bhas];refine⟨_,_,_,opB_callR gF (fiF p n [] [] []) (fiF p n [x] [] []) rfl ⟨rfl,rfl,rfl,rfl,trivial⟩ (by simp [gF]) (by simp [gF]) rfl rfl hnd rfl rfl rfl,?_⟩;(try simp -implicitDefEqProofs only [EV,forall_const,implies_true,Nat.reduceAdd,Nat.reduceEqDiff,Nat.reduceBEq,Nat.reduceLeDiff,Nat.reduceSub,Nat.reduceMul,Int.reduceEq,Int.reduceLT,Int.reduceLE,Int.reduceSub,Int.reduceAdd,Int.reduceToNat,reduceCtorEq,Int.reduceNeg,TF3,TF4,TF9,TF36,TF41,TF43,TF101,TF102,TF103,TF105,berases,bhas]);apply z;clear z K)
 refine sK fun K1 u1=>?_
 refine AWp.block (AWp.loop (X:=Bool) (fun _=>[(2,.box 2 0),(4,.box 4 0),(6,.box 15 0)])
  (fun d=>(2,.cells ((prC p).map .d))::(4,.cells [.d .nil,.d .nil])::fiF p n [x] [] (match d with | false=>[] | true=>[(x.txt,[])]))
  (fun _=>True) (fun d=>match d with | false=>1 | true=>0) false trivial sS (by simp [ble,bget,prC]) ?_)
 rintro d _
 cases d with
 | false =>
  refine sK fun K2 u2=>?_
  (refine AWp.seqR q1Zx [800021] (by decide +kernel) fun K z=>?_;simp -implicitDefEqProofs only [EV,forall_const,implies_true,Nat.reduceAdd,Nat.reduceEqDiff,Nat.reduceBEq,Nat.reduceLeDiff,Nat.reduceSub,Nat.reduceMul,Int.reduceEq,Int.reduceLT,Int.reduceLE,Int.reduceSub,Int.reduceAdd,Int.reduceToNat,reduceCtorEq,Int.reduceNeg,TF3,TF4,TF9,TF36,TF41,TF43,TF101,TF102,TF103,TF105,berases,bhas];refine⟨_,_,_,opB_callR gF (fiF p n [x] [] []) (fiF p n [x] [] [(x.txt,[])]) rfl ⟨rfl,rfl,rfl,rfl,trivial⟩ (by simp [gF]) (by simp [gF]) rfl rfl hr1 rfl rfl rfl,?_⟩;(try simp -implicitDefEqProofs only [EV,forall_const,implies_true,Nat.reduceAdd,Nat.reduceEqDiff,Nat.reduceBEq,Nat.reduceLeDiff,Nat.reduceSub,Nat.reduceMul,Int.reduceEq,Int.reduceLT,Int.reduceLE,Int.reduceSub,Int.reduceAdd,Int.reduceToNat,reduceCtorEq,Int.reduceNeg,TF3,TF4,TF9,TF36,TF41,TF43,TF101,TF102,TF103,TF105,berases,bhas]);apply z;clear z K)
  refine gI u2 ?_
  clear u2 K2
  refine AWp.block ?_
  (refine AWp.seqR q1Zx [800023] (by decide +kernel) fun K z=>?_;simp -implicitDefEqProofs only [EV,forall_const,implies_true,Nat.reduceAdd,Nat.reduceEqDiff,Nat.reduceBEq,Nat.reduceLeDiff,Nat.reduceSub,Nat.reduceMul,Int.reduceEq,Int.reduceLT,Int.reduceLE,Int.reduceSub,Int.reduceAdd,Int.reduceToNat,reduceCtorEq,Int.reduceNeg,TF3,TF4,TF9,TF36,TF41,TF43,TF101,TF102,TF103,TF105,berases,bhas];refine⟨_,_,_,opB_callR gF (fiF p n [x] [] [(x.txt,[])]) (fiF p n [x] [] [(x.txt,[])]) rfl ⟨rfl,rfl,rfl,rfl,trivial⟩ (by simp [gF]) (by simp [gF]) rfl rfl (hF _) rfl rfl rfl,?_⟩;(try simp -implicitDefEqProofs only [EV,forall_const,implies_true,Nat.reduceAdd,Nat.reduceEqDiff,Nat.reduceBEq,Nat.reduceLeDiff,Nat.reduceSub,Nat.reduceMul,Int.reduceEq,Int.reduceLT,Int.reduceLE,Int.reduceSub,Int.reduceAdd,Int.reduceToNat,reduceCtorEq,Int.reduceNeg,TF3,TF4,TF9,TF36,TF41,TF43,TF101,TF102,TF103,TF105,berases,bhas]);apply z;clear z K)
  refine AWp.condF rfl (AWp.skip ?_)
  exact⟨true,trivial,by decide,sS,by simp [ble,bget,prC]⟩
 | true =>
  refine sK fun K2 u2=>?_
  (refine AWp.seqR q1Zx [800021] (by decide +kernel) fun K z=>?_;simp -implicitDefEqProofs only [EV,forall_const,implies_true,Nat.reduceAdd,Nat.reduceEqDiff,Nat.reduceBEq,Nat.reduceLeDiff,Nat.reduceSub,Nat.reduceMul,Int.reduceEq,Int.reduceLT,Int.reduceLE,Int.reduceSub,Int.reduceAdd,Int.reduceToNat,reduceCtorEq,Int.reduceNeg,TF3,TF4,TF9,TF36,TF41,TF43,TF101,TF102,TF103,TF105,berases,bhas];refine⟨_,_,_,opB_callR gF (fiF p n [x] [] [(x.txt,[])]) (fiF p n [x] [] [(x.txt,[])]) rfl ⟨rfl,rfl,rfl,rfl,trivial⟩ (by simp [gF]) (by simp [gF]) rfl rfl hr2 rfl rfl rfl,?_⟩;(try simp -implicitDefEqProofs only [EV,forall_const,implies_true,Nat.reduceAdd,Nat.reduceEqDiff,Nat.reduceBEq,Nat.reduceLeDiff,Nat.reduceSub,Nat.reduceMul,Int.reduceEq,Int.reduceLT,Int.reduceLE,Int.reduceSub,Int.reduceAdd,Int.reduceToNat,reduceCtorEq,Int.reduceNeg,TF3,TF4,TF9,TF36,TF41,TF43,TF101,TF102,TF103,TF105,berases,bhas]);apply z;clear z K)
  refine AWp.stopK rfl ?_
  simp only [thenA,blockA,if_true]
  refine u1 _ _ ?_
  clear u2 K2 u1 K1
  refine sK fun K1 u1=>?_
  (refine AWp.seqR q1Zx [800025] (by decide +kernel) fun K z=>?_;simp -implicitDefEqProofs only [EV,forall_const,implies_true,Nat.reduceAdd,Nat.reduceEqDiff,Nat.reduceBEq,Nat.reduceLeDiff,Nat.reduceSub,Nat.reduceMul,Int.reduceEq,Int.reduceLT,Int.reduceLE,Int.reduceSub,Int.reduceAdd,Int.reduceToNat,reduceCtorEq,Int.reduceNeg,TF3,TF4,TF9,TF36,TF41,TF43,TF101,TF102,TF103,TF105,berases,bhas];refine⟨_,_,_,opB_callR gF (fiF p n [x] [] [(x.txt,[])]) (fiF p n [x] [] [(x.txt,[])]) rfl ⟨rfl,rfl,rfl,rfl,trivial⟩ (by simp [gF]) (by simp [gF]) rfl rfl (hF _) rfl rfl rfl,?_⟩;(try simp -implicitDefEqProofs only [EV,forall_const,implies_true,Nat.reduceAdd,Nat.reduceEqDiff,Nat.reduceBEq,Nat.reduceLeDiff,Nat.reduceSub,Nat.reduceMul,Int.reduceEq,Int.reduceLT,Int.reduceLE,Int.reduceSub,Int.reduceAdd,Int.reduceToNat,reduceCtorEq,Int.reduceNeg,TF3,TF4,TF9,TF36,TF41,TF43,TF101,TF102,TF103,TF105,berases,bhas]);apply z;clear z K)
  refine kI u1 ?_
  clear u1 K1
  refine AWp.publishMap 11 rfl (AWp.publishMap 12 rfl ?_)
  refine AWp.weaken (sl':=[(4,.box 4 0),(6,.box 15 0)]) (bx':=[(4,.cells [.d .nil,.d .nil]),(15,.cells [.dptr (tabC p) 0,.d (.slice (deR p.decls)),.d (.int .i64 p.main.kind),.d (.str p.main.name),.d (.str p.main.type.name),.d (.slice (tyR p.main.type.args)),.d (.int .i64 p.main.type.pos),
   .d (.slice (tyR p.main.targs)),.d (.slice (exR p.main.kids)),.d (.int .i64 p.main.pos),.d (.int .i64 n),.d (.map (tM [x])),.d (.map (cM [])),.mp 13])]) (by simp [subSl,SV.sub,sle,vle,sget]) (by simp [subBx,BoxC.sub,SV.subL,SV.sub,ble,bget,berase]) ?_
  (refine sG q1Zx [] 10 [] fun K z=>?_;refine ev ?_;refine cc hVT ?_;refine cc hST ?_;refine cc hVC ?_;refine cc hSC ?_;apply z;clear z K)
  exact aR
abbrev q2Zx:List Nat:=[0,1,2,4,5,6,11,12,13,15,21,23,25]
theorem ok_Find0 (p:Prog)(h:p.Sm)(n:Int)(hn:n < 1)(x:Ty)(hx:x.Sm)(hxt:x.tlen≤sm)(e:Ex)(he:listE p.main=[e])(hk:e.kind=3)(het:e.type=x) :
  CallOK prog 20 [prV p,intV n] (.tuple [insV [] [],boolV false]):=by
 have hNew:=ok_New p h
 have htx:x.txt.length≤sm:=by have:=Ty.txt_len x;omega
 have hnd:=ok_fiNeeds p n [] p.main [] (fun _=>none) (fun y hy=>by
  rw [he,List.mem_singleton] at hy
  subst hy
  exact⟨fun _=>by rw [het];exact⟨hx,hxt⟩,fun h2=>by omega⟩) ([],[]) ⟨by simp,by simp⟩
 have hndL:needL (fun _=>none) ([],[]) (listE p.main)=([x],[]):=by rw [he];simp [needL,needX,hk,het,upK]
 rw [hndL] at hnd
 simp only [show paR []=[] from rfl] at hnd
 have ho2:=ok_once0 p n x false [x] [] [] x.txt htx (by simp) (by simp [sm]) (by simp [sm]) (.inr (by simp;omega))
 have hr2:=ok_round1 p n x false [] [] ho2
 have hF:CallB prog 58 [.box 1000000 0] (fiL p n [x] [] []) (boolV true) (fiL p n [x] [] []):=by
  have:=ok_fiFull p n [x] [] [] (by simp [sm]) (by simp [sm])
  rwa [decide_eq_true (by simp;omega)] at this
 refine cB func20 ?_
 refine sR q2Zx ?_
 (refine sG q2Zx [] 7 [⟨[],[],[11,12,13],[11,12,13]⟩,⟨[],[],[11,12,13],[11,12,13]⟩,⟨[],[],[11,12,13],[11,12,13]⟩,⟨[],[],[11,12,13],[11,12,13]⟩,⟨[11],[11],[12,13],[12,13]⟩,⟨[12],[12],[11,13],[11,13]⟩,⟨[13],[13],[11,12],[11,12]⟩] fun K z=>?_;refine ev ?_;refine cc hNew ?_;apply z;clear z K)
 (refine AWp.seqR q2Zx [800019] (by decide +kernel) fun K z=>?_;simp -implicitDefEqProofs only [EV,forall_const,implies_true,Nat.reduceAdd,Nat.reduceEqDiff,Nat.reduceBEq,Nat.reduceLeDiff,Nat.reduceSub,Nat.reduceMul,Int.reduceEq,Int.reduceLT,Int.reduceLE,Int.reduceSub,Int.reduceAdd,Int.reduceToNat,reduceCtorEq,Int.reduceNeg,TF3,TF4,TF9,TF36,TF41,TF43,TF101,TF102,TF103,TF105,berases,bhas];refine⟨_,_,_,opB_callR gF (fiF p n [] [] []) (fiF p n [x] [] []) rfl ⟨rfl,rfl,rfl,rfl,trivial⟩ (by simp [gF]) (by simp [gF]) rfl rfl hnd rfl rfl rfl,?_⟩;(try simp -implicitDefEqProofs only [EV,forall_const,implies_true,Nat.reduceAdd,Nat.reduceEqDiff,Nat.reduceBEq,Nat.reduceLeDiff,Nat.reduceSub,Nat.reduceMul,Int.reduceEq,Int.reduceLT,Int.reduceLE,Int.reduceSub,Int.reduceAdd,Int.reduceToNat,reduceCtorEq,Int.reduceNeg,TF3,TF4,TF9,TF36,TF41,TF43,TF101,TF102,TF103,TF105,berases,bhas]);apply z;clear z K)
 refine sK fun K1 u1=>?_
 refine AWp.block (AWp.loop (X:=Unit) (fun _=>[(2,.box 2 0),(4,.box 4 0),(6,.box 15 0)])
  (fun _=>(2,.cells ((prC p).map .d))::(4,.cells [.d .nil,.d .nil])::fiF p n [x] [] [])
  (fun _=>True) (fun _=>0) () trivial sS (by simp [ble,bget,prC]) ?_)
 rintro _ _
 refine sK fun K2 u2=>?_
 (refine AWp.seqR q2Zx [800021] (by decide +kernel) fun K z=>?_;simp -implicitDefEqProofs only [EV,forall_const,implies_true,Nat.reduceAdd,Nat.reduceEqDiff,Nat.reduceBEq,Nat.reduceLeDiff,Nat.reduceSub,Nat.reduceMul,Int.reduceEq,Int.reduceLT,Int.reduceLE,Int.reduceSub,Int.reduceAdd,Int.reduceToNat,reduceCtorEq,Int.reduceNeg,TF3,TF4,TF9,TF36,TF41,TF43,TF101,TF102,TF103,TF105,berases,bhas];refine⟨_,_,_,opB_callR gF (fiF p n [x] [] []) (fiF p n [x] [] []) rfl ⟨rfl,rfl,rfl,rfl,trivial⟩ (by simp [gF]) (by simp [gF]) rfl rfl hr2 rfl rfl rfl,?_⟩;(try simp -implicitDefEqProofs only [EV,forall_const,implies_true,Nat.reduceAdd,Nat.reduceEqDiff,Nat.reduceBEq,Nat.reduceLeDiff,Nat.reduceSub,Nat.reduceMul,Int.reduceEq,Int.reduceLT,Int.reduceLE,Int.reduceSub,Int.reduceAdd,Int.reduceToNat,reduceCtorEq,Int.reduceNeg,TF3,TF4,TF9,TF36,TF41,TF43,TF101,TF102,TF103,TF105,berases,bhas]);apply z;clear z K)
 refine AWp.stopK rfl ?_
 simp only [thenA,blockA,if_true]
 refine u1 _ _ ?_
 clear u2 K2 u1 K1
 refine sK fun K1 u1=>?_
 (refine AWp.seqR q2Zx [800025] (by decide +kernel) fun K z=>?_;simp -implicitDefEqProofs only [EV,forall_const,implies_true,Nat.reduceAdd,Nat.reduceEqDiff,Nat.reduceBEq,Nat.reduceLeDiff,Nat.reduceSub,Nat.reduceMul,Int.reduceEq,Int.reduceLT,Int.reduceLE,Int.reduceSub,Int.reduceAdd,Int.reduceToNat,reduceCtorEq,Int.reduceNeg,TF3,TF4,TF9,TF36,TF41,TF43,TF101,TF102,TF103,TF105,berases,bhas];refine⟨_,_,_,opB_callR gF (fiF p n [x] [] []) (fiF p n [x] [] []) rfl ⟨rfl,rfl,rfl,rfl,trivial⟩ (by simp [gF]) (by simp [gF]) rfl rfl hF rfl rfl rfl,?_⟩;(try simp -implicitDefEqProofs only [EV,forall_const,implies_true,Nat.reduceAdd,Nat.reduceEqDiff,Nat.reduceBEq,Nat.reduceLeDiff,Nat.reduceSub,Nat.reduceMul,Int.reduceEq,Int.reduceLT,Int.reduceLE,Int.reduceSub,Int.reduceAdd,Int.reduceToNat,reduceCtorEq,Int.reduceNeg,TF3,TF4,TF9,TF36,TF41,TF43,TF101,TF102,TF103,TF105,berases,bhas]);apply z;clear z K)
 refine tI ?_
 refine sR q2Zx ?_
 exact aR
set_option maxHeartbeats 1000000
set_option maxHeartbeats 4000000
abbrev q1ay:List Nat:=[0,1,4,5,7,8,9,16]
theorem ok_IndexT (f:FuncId)(caps:List SV)(hco:∀ x:Ty,coerceL [] (tyV x::caps)=some (tyV x::caps))(p:Ty→Bool)(l:List Ty)(hl:l.length≤sm)(hs:∀ t,t∈l→CallOK prog f (tyV t::caps) (.d (.bool (p t)))) :
  CallOK prog 70 [.d (.slice (tyR l)),.clo f caps] (intV (idxF p l)):=by
 refine cB func70 ?_
 refine sR q1ay ?_
 refine kR q1ay fun K1 u1=>?_
 refine AWp.block (AWp.forIdx l (X:=Unit) (fun j _=>[(0,.d (.slice (tyR l))),(1,.clo f caps),(7,intV l.length),(8,intV j)]) (fun _ _=>[])
  (fun j _=>∀ y,y∈l.take j→p y=false) () (by simp) sS (by simp [ble,bget,exC,tyC,foC,paC,siC,deC,prC]) ?_ ?_)
 ·intro _ hI
  rw [List.take_length] at hI
  refine sR1 Int.lt_irrefl q1ay ?_
  refine AWp.stop rfl ?_
  simp only [thenA,blockA,if_true]
  refine u1 _ _ ?_
  refine sR q1ay ?_
  rw [idxF_none hI]
  exact aR
 ·intro j _ d hd hmem dp tk hlt hI
  refine sR1 hlt q1ay ?_
  refine AWp.goOn rfl ?_
  refine sK fun K2 u2=>?_
  refine AWp.block ?_
  refine sR q1ay ?_
  (refine sV q1ay fun K z=>?_;refine ci (tyR_get hd) ?_;refine⟨_,.inl ⟨_,hco d,hs d hmem,rfl⟩,?_⟩;(try refine ev ?_);apply z;clear z K)
  refine AWp.cond rfl (fun hc=>?_) (fun hc=>?_)
  ·refine sR q1ay ?_
   rw [idxF_some hd hc hI]
   exact aR
  ·refine AWp.skip (u2 _ _ ?_)
   clear u2 K2
   (refine lV q1ay fun K z=>?_;refine cl ?_;apply z;clear z K;try simp only [thenA,blockA,if_true])
   refine⟨(),?_,sS,(by simp [ble,bget,exC,tyC,foC,paC,siC,deC,prC])⟩
   rw [tk]
   intro y hy
   rcases List.mem_append.1 hy with hy | hy
   ·exact hI y hy
   ·simp only [List.mem_cons,List.not_mem_nil,or_false] at hy
    rw [hy];exact hc
theorem idxF_any {α:Type} (p:α→Bool)(l:List α):decide (idxF p l ≥ 0)=l.any p:=by
 unfold idxF
 have h:=List.findIdx?_isSome (xs:=l) (p:=p)
 rw [← h]
 cases l.findIdx? p with
 | none=>rfl
 | some i=>simp
theorem ok_ContT (f:FuncId)(caps:List SV)(hcc:coerceL [] caps=some caps)(hco:∀ x:Ty,coerceL [] (tyV x::caps)=some (tyV x::caps))(p:Ty→Bool)(l:List Ty)(hl:l.length≤sm)(hs:∀ t,t∈l→CallOK prog f (tyV t::caps) (.d (.bool (p t)))) :
  CallOK prog 29 [.d (.slice (tyR l)),.clo f caps] (boolV (l.any p)):=by
 have hi:=ok_IndexT f caps hco p l hl hs
 rw [← idxF_any]
 generalize idxF p l=i at *
 refine cB func29 ?_
 refine sR [0,1,4] ?_
 (refine sV [0,1,4] fun K z=>?_;refine⟨_,.inl ⟨[.d (.slice (tyR l)),.clo f caps],by simp only [coerceL,coerce,hcc],hi,rfl⟩,?_⟩;(try refine ev ?_);apply z;clear z K)
 exact aR
theorem ok_Has1 (t x:Ty)(ht:t.Sm):CallOK prog 30 [tyV t,.dptr (tyC x) 0] (boolV (sameT t x)):=by
 have hs:=ok_TSame t x ht
 refine cB func30 ?_
 refine sR [0,1,2,3] ?_
 refine sC hs [0,1,2,3] ?_
 exact aR
theorem ok_Has (l:List Ty)(cs:List CallT)(x:Ty)(hl:l.length≤sm)(hs:∀ t,t∈l→t.Sm):CallOK prog 10 [insV l cs,tyV x] (boolV (l.any fun t=>sameT t x)):=by
 have hc:=ok_ContT 30 [.dptr (tyC x) 0] rfl (fun _=>rfl) (fun t=>sameT t x) l hl fun t ht=>ok_Has1 t x (hs t ht)
 refine cB func10 ?_
 refine sR [0,1,2,3,4] ?_
 refine AWp.freeze 3 rfl rfl (wk [(2,.box 2 0),(3,.dptr (tyC x) 0),(4,.d (.bool false))] [(2,.cells [.d (.slice (tyR l)),.d (.slice (caR cs))])] ?_)
 refine sC hc [0,1,2,3,4] ?_
 exact aR
def t21:Ty:=.mk [84] [] 0
def u21:Ty:=.mk [85] [] 0
def l21:Ex:=.mk 3 [] t21 [] [] 0
def p21:Prog:=⟨[{ (default:Decl) with kind:=1,name:=[84] }],l21⟩
def c21:CallT:=⟨t21,[109],[]⟩
theorem t21_Sm:t21.Sm:=.mk _ _ _ (by decide) (by simp) (by simp)
theorem c21_Sm:c21.Sm:=⟨t21_Sm,by decide,by simp [c21]⟩
theorem ex0O:(default:Decl).body.Sm:=.mk _ _ _ _ _ _ (by simp) (.mk _ _ _ (by simp) (by simp) (by simp)) (by simp) (by simp) (by simp) (by simp)
theorem p21_Sm:p21.Sm:=by
 refine⟨⟨by simp [p21,sm],fun d hd=>?_⟩,.mk _ _ _ _ _ _ (by simp) t21_Sm (by simp) (by simp) (by simp) (by simp)⟩
 simp only [p21,List.mem_singleton] at hd
 subst hd
 exact⟨by decide,⟨by simp [default],by simp [default]⟩,⟨by simp [default],by simp [default]⟩,⟨by simp [default],by simp [default]⟩,by simp [default],⟨by simp [default],by simp [default]⟩,⟨by simp [default],⟨by simp [default],by simp [default]⟩,⟨by simp [default],by simp [default]⟩,.mk _ _ _ (by simp) (by simp) (by simp)⟩,ex0O⟩
theorem meth21:callsX p21 [c21] t21=[c21]:=by
 have:implB p21 [] t21 t21=true:=by decide +kernel
 unfold callsX
 rw [List.filter_cons,show c21.on=t21 from rfl,if_pos this]
 rfl
theorem CallP.oneO {P:Program} {f:FuncId} {args:List SV} {r0:SV} (h:CallP P f args fun r=>r=r0):CallOK P f args r0 :=
 ⟨h.1,fun C β vs hi hv=>(h.2 C β vs hi hv).mono fun _ _ ⟨r,v,S',β',h0,h1,h2,h3⟩=>⟨v,S',β',h1,h2,h0 ▸ h3⟩⟩
abbrev q2ay:List Nat:=[0,1,2,3,5,6]
theorem ok_awake21:CallOK prog 5 [] (boolV true):=by
 have h1:=ok_Find1 p21 p21_Sm 1 (by decide) t21 t21_Sm (by decide +kernel) l21 rfl rfl rfl rfl
 have h0:=ok_Find0 p21 p21_Sm 0 (by decide) t21 t21_Sm (by decide +kernel) l21 rfl rfl rfl
 have hh:=ok_Has [t21] [] t21 (by simp [sm]) (by simpa using t21_Sm)
 have hu:=ok_Has [t21] [] u21 (by simp [sm]) (by simpa using t21_Sm)
 have hc:=ok_ICompare c21 c21_Sm c21
 have hm0:=ok_Methods p21 p21_Sm [] [c21] (by simp [sm]) (by simpa using c21_Sm) t21 t21_Sm
 rw [show ([t21].any fun t=>sameT t t21)=true by decide +kernel] at hh
 rw [show ([t21].any fun t=>sameT t u21)=false by decide +kernel] at hu
 rw [cmpC_refl] at hc
 have hm:CallOK prog 21 [prV p21,insV [] [c21],tyV t21] (.d (.slice (caR [c21]))):=CallP.oneO (hm0.imp fun r hr=>by
  obtain⟨l',hp,_,rfl⟩:=hr
  rw [meth21] at hp
  obtain rfl:=List.perm_singleton.1 hp
  rfl)
 have hg:[t21][0]? = some t21:=rfl
 have n4:((1:Nat):Int)=1:=rfl
 have n0:((0:Nat):Int)=0:=rfl
 have nn:t21.name=[84]:=rfl
 refine cB func5 ?_
 refine sR q2ay ?_
 refine sR q2ay ?_
 refine sC h1 q2ay ?_
 refine sC h0 q2ay ?_
 refine sR q2ay ?_
 (refine sQ q2ay fun K z=>?_;simp -implicitDefEqProofs only [EV,forall_const,implies_true,Nat.reduceAdd,Nat.reduceEqDiff,Nat.reduceBEq,Nat.reduceLeDiff,Nat.reduceSub,Nat.reduceMul,Int.reduceEq,Int.reduceLT,Int.reduceLE,Int.reduceSub,Int.reduceAdd,Int.reduceToNat,reduceCtorEq,Int.reduceNeg,TF3,TF4,TF9,TF22,TF24,TF31,TF34,TF36,TF38,TF41,TF43,TF61,tyR_len,caR_len,n4,n0,nn];refine⟨_,tyR_get hg,rfl,?_⟩;(try simp -implicitDefEqProofs only [EV,forall_const,implies_true,Nat.reduceAdd,Nat.reduceEqDiff,Nat.reduceBEq,Nat.reduceLeDiff,Nat.reduceSub,Nat.reduceMul,Int.reduceEq,Int.reduceLT,Int.reduceLE,Int.reduceSub,Int.reduceAdd,Int.reduceToNat,reduceCtorEq,Int.reduceNeg,TF3,TF4,TF9,TF22,TF24,TF31,TF34,TF36,TF38,TF41,TF43,TF61,tyR_len,caR_len,n4,n0,nn]);refine⟨_,.inl ⟨_,rfl,hh,rfl⟩,?_⟩;(try simp -implicitDefEqProofs only [EV,forall_const,implies_true,Nat.reduceAdd,Nat.reduceEqDiff,Nat.reduceBEq,Nat.reduceLeDiff,Nat.reduceSub,Nat.reduceMul,Int.reduceEq,Int.reduceLT,Int.reduceLE,Int.reduceSub,Int.reduceAdd,Int.reduceToNat,reduceCtorEq,Int.reduceNeg,TF3,TF4,TF9,TF22,TF24,TF31,TF34,TF36,TF38,TF41,TF43,TF61,tyR_len,caR_len,n4,n0,nn]);refine⟨_,.inl ⟨_,rfl,hu,rfl⟩,?_⟩;(try simp -implicitDefEqProofs only [EV,forall_const,implies_true,Nat.reduceAdd,Nat.reduceEqDiff,Nat.reduceBEq,Nat.reduceLeDiff,Nat.reduceSub,Nat.reduceMul,Int.reduceEq,Int.reduceLT,Int.reduceLE,Int.reduceSub,Int.reduceAdd,Int.reduceToNat,reduceCtorEq,Int.reduceNeg,TF3,TF4,TF9,TF22,TF24,TF31,TF34,TF36,TF38,TF41,TF43,TF61,tyR_len,caR_len,n4,n0,nn]);refine⟨_,.inl ⟨_,rfl,hc,rfl⟩,?_⟩;(try simp -implicitDefEqProofs only [EV,forall_const,implies_true,Nat.reduceAdd,Nat.reduceEqDiff,Nat.reduceBEq,Nat.reduceLeDiff,Nat.reduceSub,Nat.reduceMul,Int.reduceEq,Int.reduceLT,Int.reduceLE,Int.reduceSub,Int.reduceAdd,Int.reduceToNat,reduceCtorEq,Int.reduceNeg,TF3,TF4,TF9,TF22,TF24,TF31,TF34,TF36,TF38,TF41,TF43,TF61,tyR_len,caR_len,n4,n0,nn]);refine⟨_,.inl ⟨_,rfl,hm,rfl⟩,?_⟩;(try simp -implicitDefEqProofs only [EV,forall_const,implies_true,Nat.reduceAdd,Nat.reduceEqDiff,Nat.reduceBEq,Nat.reduceLeDiff,Nat.reduceSub,Nat.reduceMul,Int.reduceEq,Int.reduceLT,Int.reduceLE,Int.reduceSub,Int.reduceAdd,Int.reduceToNat,reduceCtorEq,Int.reduceNeg,TF3,TF4,TF9,TF22,TF24,TF31,TF34,TF36,TF38,TF41,TF43,TF61,tyR_len,caR_len,n4,n0,nn]);apply z;clear z K)
 exact aR
abbrev q3ay:List Nat:=[0,1,2,3,4,5,7,8,9,10,19,45,50]
theorem law21_orders (a b:CallT)(l:List Ty)(x:Ty)(hab:(3+a.targs.length+b.targs.length)*48≤lim):CallOK prog 3 [caV a,caV b,.d (.slice (tyR l)),tyV x] (boolV true):=by
 have haw:=ok_awake21
 have hfa:=ok_FewAll (a.on::b.on::x::(a.targs++b.targs))
 have hfl:=ok_FewAll l
 have hb1:([tyC a.on,tyC b.on,tyC x].length+(tyR a.targs).length)*48≤lim:=by simp only [tyR_map,List.length_map,List.length_cons,List.length_nil];omega
 rw [show tysV (a.on::b.on::x::(a.targs++b.targs))=.d (.slice (tyC a.on::tyC b.on::tyC x::(tyR a.targs++tyR b.targs))) by rw [← tyR_append,← tyR_cons,← tyR_cons,← tyR_cons]] at hfa
 by_cases gf:Ty.countL (a.on::b.on::x::(a.targs++b.targs)) 0≤200
 rotate_left
 ·rw [decide_eq_false gf] at hfa
  refine cB func3 ?_
  refine sR q3ay ?_
  refine sK fun K1 u1=>?_
  (refine sG q3ay [19] 14 [⟨[],[],[],[]⟩,⟨[],[],[],[]⟩,⟨[],[],[],[]⟩,⟨[],[],[],[]⟩,⟨[],[],[],[]⟩,⟨[],[],[],[]⟩,⟨[],[],[],[]⟩,⟨[],[],[],[]⟩,⟨[19],[19],[],[]⟩,⟨[],[],[19],[19]⟩,⟨[],[],[19],[19]⟩,⟨[19],[19],[],[]⟩,⟨[],[],[19],[19]⟩,⟨[],[],[19],[19]⟩] fun K z=>?_;simp -implicitDefEqProofs only [EV,forall_const,implies_true,Nat.reduceAdd,Nat.reduceEqDiff,Nat.reduceBEq,Nat.reduceLeDiff,Nat.reduceSub,Nat.reduceMul,Int.reduceEq,Int.reduceLT,Int.reduceLE,Int.reduceSub,Int.reduceAdd,Int.reduceToNat,reduceCtorEq,Int.reduceNeg,TF3,TF4,TF9,TF22,TF24,TF26,TF36,List.cons_append,List.nil_append];refine⟨_,.inl ⟨_,rfl,haw,rfl⟩,?_⟩;(try simp -implicitDefEqProofs only [EV,forall_const,implies_true,Nat.reduceAdd,Nat.reduceEqDiff,Nat.reduceBEq,Nat.reduceLeDiff,Nat.reduceSub,Nat.reduceMul,Int.reduceEq,Int.reduceLT,Int.reduceLE,Int.reduceSub,Int.reduceAdd,Int.reduceToNat,reduceCtorEq,Int.reduceNeg,TF3,TF4,TF9,TF22,TF24,TF26,TF36,List.cons_append,List.nil_append]);refine⟨tyR_row _,by (try simp only [tyR_map,List.length_map,List.length_append,List.length_cons,List.length_nil]);unfold lim at *;omega,?_⟩;(try simp -implicitDefEqProofs only [EV,forall_const,implies_true,Nat.reduceAdd,Nat.reduceEqDiff,Nat.reduceBEq,Nat.reduceLeDiff,Nat.reduceSub,Nat.reduceMul,Int.reduceEq,Int.reduceLT,Int.reduceLE,Int.reduceSub,Int.reduceAdd,Int.reduceToNat,reduceCtorEq,Int.reduceNeg,TF3,TF4,TF9,TF22,TF24,TF26,TF36,List.cons_append,List.nil_append]);refine⟨tyR_row _,by (try simp only [tyR_map,List.length_map,List.length_append,List.length_cons,List.length_nil]);unfold lim at *;omega,?_⟩;(try simp -implicitDefEqProofs only [EV,forall_const,implies_true,Nat.reduceAdd,Nat.reduceEqDiff,Nat.reduceBEq,Nat.reduceLeDiff,Nat.reduceSub,Nat.reduceMul,Int.reduceEq,Int.reduceLT,Int.reduceLE,Int.reduceSub,Int.reduceAdd,Int.reduceToNat,reduceCtorEq,Int.reduceNeg,TF3,TF4,TF9,TF22,TF24,TF26,TF36,List.cons_append,List.nil_append]);refine⟨_,.inr ⟨_,rfl,hfa,rfl⟩,?_⟩;(try simp -implicitDefEqProofs only [EV,forall_const,implies_true,Nat.reduceAdd,Nat.reduceEqDiff,Nat.reduceBEq,Nat.reduceLeDiff,Nat.reduceSub,Nat.reduceMul,Int.reduceEq,Int.reduceLT,Int.reduceLE,Int.reduceSub,Int.reduceAdd,Int.reduceToNat,reduceCtorEq,Int.reduceNeg,TF3,TF4,TF9,TF22,TF24,TF26,TF36,List.cons_append,List.nil_append]);apply z;clear z K)
  refine tI ?_
  refine sC haw q3ay ?_
  exact aR
 rw [decide_eq_true gf] at hfa
 by_cases gl:Ty.countL l 0≤200
 rotate_left
 ·rw [decide_eq_false gl] at hfl
  refine cB func3 ?_
  refine sR q3ay ?_
  refine sK fun K1 u1=>?_
  (refine sG q3ay [19] 14 [⟨[],[],[],[]⟩,⟨[],[],[],[]⟩,⟨[],[],[],[]⟩,⟨[],[],[],[]⟩,⟨[],[],[],[]⟩,⟨[],[],[],[]⟩,⟨[],[],[],[]⟩,⟨[],[],[],[]⟩,⟨[19],[19],[],[]⟩,⟨[],[],[19],[19]⟩,⟨[],[],[19],[19]⟩,⟨[19],[19],[],[]⟩,⟨[],[],[19],[19]⟩,⟨[],[],[19],[19]⟩] fun K z=>?_;simp -implicitDefEqProofs only [EV,forall_const,implies_true,Nat.reduceAdd,Nat.reduceEqDiff,Nat.reduceBEq,Nat.reduceLeDiff,Nat.reduceSub,Nat.reduceMul,Int.reduceEq,Int.reduceLT,Int.reduceLE,Int.reduceSub,Int.reduceAdd,Int.reduceToNat,reduceCtorEq,Int.reduceNeg,TF3,TF4,TF9,TF22,TF24,TF26,TF36,List.cons_append,List.nil_append];refine⟨_,.inl ⟨_,rfl,haw,rfl⟩,?_⟩;(try simp -implicitDefEqProofs only [EV,forall_const,implies_true,Nat.reduceAdd,Nat.reduceEqDiff,Nat.reduceBEq,Nat.reduceLeDiff,Nat.reduceSub,Nat.reduceMul,Int.reduceEq,Int.reduceLT,Int.reduceLE,Int.reduceSub,Int.reduceAdd,Int.reduceToNat,reduceCtorEq,Int.reduceNeg,TF3,TF4,TF9,TF22,TF24,TF26,TF36,List.cons_append,List.nil_append]);refine⟨tyR_row _,by (try simp only [tyR_map,List.length_map,List.length_append,List.length_cons,List.length_nil]);unfold lim at *;omega,?_⟩;(try simp -implicitDefEqProofs only [EV,forall_const,implies_true,Nat.reduceAdd,Nat.reduceEqDiff,Nat.reduceBEq,Nat.reduceLeDiff,Nat.reduceSub,Nat.reduceMul,Int.reduceEq,Int.reduceLT,Int.reduceLE,Int.reduceSub,Int.reduceAdd,Int.reduceToNat,reduceCtorEq,Int.reduceNeg,TF3,TF4,TF9,TF22,TF24,TF26,TF36,List.cons_append,List.nil_append]);refine⟨tyR_row _,by (try simp only [tyR_map,List.length_map,List.length_append,List.length_cons,List.length_nil]);unfold lim at *;omega,?_⟩;(try simp -implicitDefEqProofs only [EV,forall_const,implies_true,Nat.reduceAdd,Nat.reduceEqDiff,Nat.reduceBEq,Nat.reduceLeDiff,Nat.reduceSub,Nat.reduceMul,Int.reduceEq,Int.reduceLT,Int.reduceLE,Int.reduceSub,Int.reduceAdd,Int.reduceToNat,reduceCtorEq,Int.reduceNeg,TF3,TF4,TF9,TF22,TF24,TF26,TF36,List.cons_append,List.nil_append]);refine⟨_,.inr ⟨_,rfl,hfa,rfl⟩,?_⟩;(try simp -implicitDefEqProofs only [EV,forall_const,implies_true,Nat.reduceAdd,Nat.reduceEqDiff,Nat.reduceBEq,Nat.reduceLeDiff,Nat.reduceSub,Nat.reduceMul,Int.reduceEq,Int.reduceLT,Int.reduceLE,Int.reduceSub,Int.reduceAdd,Int.reduceToNat,reduceCtorEq,Int.reduceNeg,TF3,TF4,TF9,TF22,TF24,TF26,TF36,List.cons_append,List.nil_append]);refine⟨_,.inl ⟨_,rfl,hfl,rfl⟩,?_⟩;(try simp -implicitDefEqProofs only [EV,forall_const,implies_true,Nat.reduceAdd,Nat.reduceEqDiff,Nat.reduceBEq,Nat.reduceLeDiff,Nat.reduceSub,Nat.reduceMul,Int.reduceEq,Int.reduceLT,Int.reduceLE,Int.reduceSub,Int.reduceAdd,Int.reduceToNat,reduceCtorEq,Int.reduceNeg,TF3,TF4,TF9,TF22,TF24,TF26,TF36,List.cons_append,List.nil_append]);apply z;clear z K)
  refine tI ?_
  refine sC haw q3ay ?_
  exact aR
 rw [decide_eq_true gl] at hfl
 by_cases gn:(a.name.length:Int) > 300
 ·skip
  refine cB func3 ?_
  refine sR q3ay ?_
  refine sK fun K1 u1=>?_
  (refine sG q3ay [19] 14 [⟨[],[],[],[]⟩,⟨[],[],[],[]⟩,⟨[],[],[],[]⟩,⟨[],[],[],[]⟩,⟨[],[],[],[]⟩,⟨[],[],[],[]⟩,⟨[],[],[],[]⟩,⟨[],[],[],[]⟩,⟨[19],[19],[],[]⟩,⟨[],[],[19],[19]⟩,⟨[],[],[19],[19]⟩,⟨[19],[19],[],[]⟩,⟨[],[],[19],[19]⟩,⟨[],[],[19],[19]⟩] fun K z=>?_;simp -implicitDefEqProofs only [EV,forall_const,implies_true,Nat.reduceAdd,Nat.reduceEqDiff,Nat.reduceBEq,Nat.reduceLeDiff,Nat.reduceSub,Nat.reduceMul,Int.reduceEq,Int.reduceLT,Int.reduceLE,Int.reduceSub,Int.reduceAdd,Int.reduceToNat,reduceCtorEq,Int.reduceNeg,TF3,TF4,TF9,TF22,TF24,TF26,TF36,List.cons_append,List.nil_append,gn];refine⟨_,.inl ⟨_,rfl,haw,rfl⟩,?_⟩;(try simp -implicitDefEqProofs only [EV,forall_const,implies_true,Nat.reduceAdd,Nat.reduceEqDiff,Nat.reduceBEq,Nat.reduceLeDiff,Nat.reduceSub,Nat.reduceMul,Int.reduceEq,Int.reduceLT,Int.reduceLE,Int.reduceSub,Int.reduceAdd,Int.reduceToNat,reduceCtorEq,Int.reduceNeg,TF3,TF4,TF9,TF22,TF24,TF26,TF36,List.cons_append,List.nil_append,gn]);refine⟨tyR_row _,by (try simp only [tyR_map,List.length_map,List.length_append,List.length_cons,List.length_nil]);unfold lim at *;omega,?_⟩;(try simp -implicitDefEqProofs only [EV,forall_const,implies_true,Nat.reduceAdd,Nat.reduceEqDiff,Nat.reduceBEq,Nat.reduceLeDiff,Nat.reduceSub,Nat.reduceMul,Int.reduceEq,Int.reduceLT,Int.reduceLE,Int.reduceSub,Int.reduceAdd,Int.reduceToNat,reduceCtorEq,Int.reduceNeg,TF3,TF4,TF9,TF22,TF24,TF26,TF36,List.cons_append,List.nil_append,gn]);refine⟨tyR_row _,by (try simp only [tyR_map,List.length_map,List.length_append,List.length_cons,List.length_nil]);unfold lim at *;omega,?_⟩;(try simp -implicitDefEqProofs only [EV,forall_const,implies_true,Nat.reduceAdd,Nat.reduceEqDiff,Nat.reduceBEq,Nat.reduceLeDiff,Nat.reduceSub,Nat.reduceMul,Int.reduceEq,Int.reduceLT,Int.reduceLE,Int.reduceSub,Int.reduceAdd,Int.reduceToNat,reduceCtorEq,Int.reduceNeg,TF3,TF4,TF9,TF22,TF24,TF26,TF36,List.cons_append,List.nil_append,gn]);refine⟨_,.inr ⟨_,rfl,hfa,rfl⟩,?_⟩;(try simp -implicitDefEqProofs only [EV,forall_const,implies_true,Nat.reduceAdd,Nat.reduceEqDiff,Nat.reduceBEq,Nat.reduceLeDiff,Nat.reduceSub,Nat.reduceMul,Int.reduceEq,Int.reduceLT,Int.reduceLE,Int.reduceSub,Int.reduceAdd,Int.reduceToNat,reduceCtorEq,Int.reduceNeg,TF3,TF4,TF9,TF22,TF24,TF26,TF36,List.cons_append,List.nil_append,gn]);refine⟨_,.inl ⟨_,rfl,hfl,rfl⟩,?_⟩;(try simp -implicitDefEqProofs only [EV,forall_const,implies_true,Nat.reduceAdd,Nat.reduceEqDiff,Nat.reduceBEq,Nat.reduceLeDiff,Nat.reduceSub,Nat.reduceMul,Int.reduceEq,Int.reduceLT,Int.reduceLE,Int.reduceSub,Int.reduceAdd,Int.reduceToNat,reduceCtorEq,Int.reduceNeg,TF3,TF4,TF9,TF22,TF24,TF26,TF36,List.cons_append,List.nil_append,gn]);apply z;clear z K)
  refine tI ?_
  refine sC haw q3ay ?_
  exact aR
 by_cases gm:(b.name.length:Int) > 300
 ·skip
  refine cB func3 ?_
  refine sR q3ay ?_
  refine sK fun K1 u1=>?_
  (refine sG q3ay [19] 14 [⟨[],[],[],[]⟩,⟨[],[],[],[]⟩,⟨[],[],[],[]⟩,⟨[],[],[],[]⟩,⟨[],[],[],[]⟩,⟨[],[],[],[]⟩,⟨[],[],[],[]⟩,⟨[],[],[],[]⟩,⟨[19],[19],[],[]⟩,⟨[],[],[19],[19]⟩,⟨[],[],[19],[19]⟩,⟨[19],[19],[],[]⟩,⟨[],[],[19],[19]⟩,⟨[],[],[19],[19]⟩] fun K z=>?_;simp -implicitDefEqProofs only [EV,forall_const,implies_true,Nat.reduceAdd,Nat.reduceEqDiff,Nat.reduceBEq,Nat.reduceLeDiff,Nat.reduceSub,Nat.reduceMul,Int.reduceEq,Int.reduceLT,Int.reduceLE,Int.reduceSub,Int.reduceAdd,Int.reduceToNat,reduceCtorEq,Int.reduceNeg,TF3,TF4,TF9,TF22,TF24,TF26,TF36,List.cons_append,List.nil_append,gn,gm];refine⟨_,.inl ⟨_,rfl,haw,rfl⟩,?_⟩;(try simp -implicitDefEqProofs only [EV,forall_const,implies_true,Nat.reduceAdd,Nat.reduceEqDiff,Nat.reduceBEq,Nat.reduceLeDiff,Nat.reduceSub,Nat.reduceMul,Int.reduceEq,Int.reduceLT,Int.reduceLE,Int.reduceSub,Int.reduceAdd,Int.reduceToNat,reduceCtorEq,Int.reduceNeg,TF3,TF4,TF9,TF22,TF24,TF26,TF36,List.cons_append,List.nil_append,gn,gm]);refine⟨tyR_row _,by (try simp only [tyR_map,List.length_map,List.length_append,List.length_cons,List.length_nil]);unfold lim at *;omega,?_⟩;(try simp -implicitDefEqProofs only [EV,forall_const,implies_true,Nat.reduceAdd,Nat.reduceEqDiff,Nat.reduceBEq,Nat.reduceLeDiff,Nat.reduceSub,Nat.reduceMul,Int.reduceEq,Int.reduceLT,Int.reduceLE,Int.reduceSub,Int.reduceAdd,Int.reduceToNat,reduceCtorEq,Int.reduceNeg,TF3,TF4,TF9,TF22,TF24,TF26,TF36,List.cons_append,List.nil_append,gn,gm]);refine⟨tyR_row _,by (try simp only [tyR_map,List.length_map,List.length_append,List.length_cons,List.length_nil]);unfold lim at *;omega,?_⟩;(try simp -implicitDefEqProofs only [EV,forall_const,implies_true,Nat.reduceAdd,Nat.reduceEqDiff,Nat.reduceBEq,Nat.reduceLeDiff,Nat.reduceSub,Nat.reduceMul,Int.reduceEq,Int.reduceLT,Int.reduceLE,Int.reduceSub,Int.reduceAdd,Int.reduceToNat,reduceCtorEq,Int.reduceNeg,TF3,TF4,TF9,TF22,TF24,TF26,TF36,List.cons_append,List.nil_append,gn,gm]);refine⟨_,.inr ⟨_,rfl,hfa,rfl⟩,?_⟩;(try simp -implicitDefEqProofs only [EV,forall_const,implies_true,Nat.reduceAdd,Nat.reduceEqDiff,Nat.reduceBEq,Nat.reduceLeDiff,Nat.reduceSub,Nat.reduceMul,Int.reduceEq,Int.reduceLT,Int.reduceLE,Int.reduceSub,Int.reduceAdd,Int.reduceToNat,reduceCtorEq,Int.reduceNeg,TF3,TF4,TF9,TF22,TF24,TF26,TF36,List.cons_append,List.nil_append,gn,gm]);refine⟨_,.inl ⟨_,rfl,hfl,rfl⟩,?_⟩;(try simp -implicitDefEqProofs only [EV,forall_const,implies_true,Nat.reduceAdd,Nat.reduceEqDiff,Nat.reduceBEq,Nat.reduceLeDiff,Nat.reduceSub,Nat.reduceMul,Int.reduceEq,Int.reduceLT,Int.reduceLE,Int.reduceSub,Int.reduceAdd,Int.reduceToNat,reduceCtorEq,Int.reduceNeg,TF3,TF4,TF9,TF22,TF24,TF26,TF36,List.cons_append,List.nil_append,gn,gm]);apply z;clear z K)
  refine tI ?_
  refine sC haw q3ay ?_
  exact aR
 have hall:=(Ty.countL_sm _ 0 (by omega) (show Ty.countL (a.on::b.on::x::(a.targs++b.targs)) 0≤2000 by omega)).2
 have hlen:=(Ty.countL_sm _ 0 (by omega) (show Ty.countL (a.on::b.on::x::(a.targs++b.targs)) 0≤2000 by omega)).1
 simp only [List.length_cons,List.length_append] at hlen
 have ha:a.Sm:=⟨hall _ (by simp),by unfold sm;omega,by unfold sm;omega,fun t ht=>hall t (by simp [ht])⟩
 have hls:=Ty.countL_sm l 0 (by omega) (by omega)
 have hl:l.length≤sm:=by have:=hls.1;unfold sm;omega
 have hc1:=ok_ICompare a ha b
 have hc2:=ok_RCompareC a ha b
 have hh:=ok_Has l [] x hl hls.2
 try simp only [show caR ([]:List CallT)=[] from rfl] at hh
 generalize cmpC a b=z at *
 refine cB func3 ?_
 refine sR q3ay ?_
 refine sK fun K1 u1=>?_
 (refine sG q3ay [19] 14 [⟨[],[],[],[]⟩,⟨[],[],[],[]⟩,⟨[],[],[],[]⟩,⟨[],[],[],[]⟩,⟨[],[],[],[]⟩,⟨[],[],[],[]⟩,⟨[],[],[],[]⟩,⟨[],[],[],[]⟩,⟨[19],[19],[],[]⟩,⟨[],[],[19],[19]⟩,⟨[],[],[19],[19]⟩,⟨[19],[19],[],[]⟩,⟨[],[],[19],[19]⟩,⟨[],[],[19],[19]⟩] fun K z=>?_;simp -implicitDefEqProofs only [EV,forall_const,implies_true,Nat.reduceAdd,Nat.reduceEqDiff,Nat.reduceBEq,Nat.reduceLeDiff,Nat.reduceSub,Nat.reduceMul,Int.reduceEq,Int.reduceLT,Int.reduceLE,Int.reduceSub,Int.reduceAdd,Int.reduceToNat,reduceCtorEq,Int.reduceNeg,TF3,TF4,TF9,TF22,TF24,TF26,TF36,List.cons_append,List.nil_append,gn,gm];refine⟨_,.inl ⟨_,rfl,haw,rfl⟩,?_⟩;(try simp -implicitDefEqProofs only [EV,forall_const,implies_true,Nat.reduceAdd,Nat.reduceEqDiff,Nat.reduceBEq,Nat.reduceLeDiff,Nat.reduceSub,Nat.reduceMul,Int.reduceEq,Int.reduceLT,Int.reduceLE,Int.reduceSub,Int.reduceAdd,Int.reduceToNat,reduceCtorEq,Int.reduceNeg,TF3,TF4,TF9,TF22,TF24,TF26,TF36,List.cons_append,List.nil_append,gn,gm]);refine⟨tyR_row _,by (try simp only [tyR_map,List.length_map,List.length_append,List.length_cons,List.length_nil]);unfold lim at *;omega,?_⟩;(try simp -implicitDefEqProofs only [EV,forall_const,implies_true,Nat.reduceAdd,Nat.reduceEqDiff,Nat.reduceBEq,Nat.reduceLeDiff,Nat.reduceSub,Nat.reduceMul,Int.reduceEq,Int.reduceLT,Int.reduceLE,Int.reduceSub,Int.reduceAdd,Int.reduceToNat,reduceCtorEq,Int.reduceNeg,TF3,TF4,TF9,TF22,TF24,TF26,TF36,List.cons_append,List.nil_append,gn,gm]);refine⟨tyR_row _,by (try simp only [tyR_map,List.length_map,List.length_append,List.length_cons,List.length_nil]);unfold lim at *;omega,?_⟩;(try simp -implicitDefEqProofs only [EV,forall_const,implies_true,Nat.reduceAdd,Nat.reduceEqDiff,Nat.reduceBEq,Nat.reduceLeDiff,Nat.reduceSub,Nat.reduceMul,Int.reduceEq,Int.reduceLT,Int.reduceLE,Int.reduceSub,Int.reduceAdd,Int.reduceToNat,reduceCtorEq,Int.reduceNeg,TF3,TF4,TF9,TF22,TF24,TF26,TF36,List.cons_append,List.nil_append,gn,gm]);refine⟨_,.inr ⟨_,rfl,hfa,rfl⟩,?_⟩;(try simp -implicitDefEqProofs only [EV,forall_const,implies_true,Nat.reduceAdd,Nat.reduceEqDiff,Nat.reduceBEq,Nat.reduceLeDiff,Nat.reduceSub,Nat.reduceMul,Int.reduceEq,Int.reduceLT,Int.reduceLE,Int.reduceSub,Int.reduceAdd,Int.reduceToNat,reduceCtorEq,Int.reduceNeg,TF3,TF4,TF9,TF22,TF24,TF26,TF36,List.cons_append,List.nil_append,gn,gm]);refine⟨_,.inl ⟨_,rfl,hfl,rfl⟩,?_⟩;(try simp -implicitDefEqProofs only [EV,forall_const,implies_true,Nat.reduceAdd,Nat.reduceEqDiff,Nat.reduceBEq,Nat.reduceLeDiff,Nat.reduceSub,Nat.reduceMul,Int.reduceEq,Int.reduceLT,Int.reduceLE,Int.reduceSub,Int.reduceAdd,Int.reduceToNat,reduceCtorEq,Int.reduceNeg,TF3,TF4,TF9,TF22,TF24,TF26,TF36,List.cons_append,List.nil_append,gn,gm]);apply z;clear z K)
 refine kI u1 ?_
 clear u1 K1
 refine sR q3ay ?_
 refine kR q3ay fun K1 u1=>?_
 refine AWp.block (AWp.forIdx l (X:=Unit) (fun j _=>[(2,.d (.slice (tyR l))),(4,.box 4 0),(5,.box 5 0),(7,.box 7 0),(9,.d (.bool ((l.take j).any fun t=>sameT t x))),(10,intV j)]) (fun _ _=>[(4,.cells (caS a)),(5,.cells (caS b)),(7,.cells (tyS x))])
  (fun _ _=>True) () trivial sS sB ?_ ?_)
 rotate_left
 ·intro j _ t ht hmem dp tk hlt _
  have hs:=ok_RSame t x (hls.2 t hmem)
  rw [tk,List.any_append]
  generalize ((l.take j).any fun t=>sameT t x)=f at *
  refine sK fun K2 u2=>?_
  (refine sQ q3ay fun K z=>?_;simp -implicitDefEqProofs only [EV,forall_const,implies_true,Nat.reduceAdd,Nat.reduceEqDiff,Nat.reduceBEq,Nat.reduceLeDiff,Nat.reduceSub,Nat.reduceMul,Int.reduceEq,Int.reduceLT,Int.reduceLE,Int.reduceSub,Int.reduceAdd,Int.reduceToNat,reduceCtorEq,Int.reduceNeg,TF3,TF4,TF9,TF22,TF24,TF26,TF36,hlt,tyR_len];apply z;clear z K)
  refine gI u2 ?_
  clear u2 K2
  refine sK fun K2 u2=>?_
  refine AWp.block ?_
  cases f with
  | true =>
   (refine lG q3ay [] 7 [] fun K z=>?_;refine ev ?_;apply z;clear z K;try simp only [thenA,blockA,if_true])
   refine u2 _ _ ?_
   clear u2 K2
   (refine lV q3ay fun K z=>?_;refine cl ?_;apply z;clear z K;try simp only [thenA,blockA,if_true])
   exact⟨(),trivial,sS,by simp [ble,bget]⟩
  | false =>
   (refine lG q3ay [] 7 [] fun K z=>?_;refine ev ?_;refine ci (tyR_get ht) ?_;refine cc hs ?_;apply z;clear z K;try simp only [thenA,blockA,if_true])
   refine u2 _ _ ?_
   clear u2 K2
   (refine lV q3ay fun K z=>?_;refine cl ?_;apply z;clear z K;try simp only [thenA,blockA,if_true])
   exact⟨(),trivial,sS,by simp [ble,bget]⟩
 intro _ _
 rw [List.take_length]
 refine sK fun K2 u2=>?_
 (refine sQ q3ay fun K z=>?_;simp -implicitDefEqProofs only [EV,forall_const,implies_true,Nat.reduceAdd,Nat.reduceEqDiff,Nat.reduceBEq,Nat.reduceLeDiff,Nat.reduceSub,Nat.reduceMul,Int.reduceEq,Int.reduceLT,Int.reduceLE,Int.reduceSub,Int.reduceAdd,Int.reduceToNat,reduceCtorEq,Int.reduceNeg,TF3,TF4,TF9,TF22,TF24,TF26,TF36,Int.lt_irrefl,tyR_len];apply z;clear z K)
 refine AWp.stopK rfl ?_
 simp only [thenA,blockA,if_true]
 refine u1 _ _ ?_
 clear u2 K2 u1 K1
 generalize (l.any fun t=>sameT t x)=f at *
 have hzz:(z=z)=True:=eq_self z
 have hff:(f == f)=true:=by cases f <;> rfl
 (refine sG q3ay [] 13 [] fun K z=>?_;refine ev2 hzz hff ?_;refine⟨_,.inl ⟨_,rfl,hc1,rfl⟩,?_⟩;(try refine ev2 hzz hff ?_);refine⟨_,.inl ⟨_,rfl,hc2,rfl⟩,?_⟩;(try refine ev2 hzz hff ?_);refine⟨_,.inl ⟨_,rfl,hh,rfl⟩,?_⟩;(try refine ev2 hzz hff ?_);apply z;clear z K)
 exact aR
end Go.Abs
