/- expr.Replace; castingsref05.Subst, Replace -/
import Derived.Test.YtenheogknlmohaaGreatDoorYS33
import Derived.Test.YtenheogknlmohaaGreatDoorYSB
namespace Go.Abs
set_option linter.unusedSimpArgs false
set_option linter.unusedVariables false
open Go Go.Proofs
set_option maxRecDepth 100000
set_option maxHeartbeats 1000000
theorem tySm_subst {vars:List Str} {args:List Ty} (ha:∀ u,u∈args→u.Sm):∀ t:Ty,t.Sm→(t.subst vars args).Sm:=by
 intro t
 induction t using Ty.induct with
 | h t ih =>
 intro h
 rw [subst_eq]
 split
 ·rename_i hc
  have hlt:(indexS t.name vars 0).toNat < args.length:=by omega
  rw [List.getElem?_eq_getElem hlt,Option.getD_some]
  have:=ha _ (List.getElem_mem hlt)
  exact .mk _ _ _ this.name this.len this.arg
 ·refine .mk _ _ _ h.name (by rw [List.length_map];exact h.len) fun u hu=>?_
  obtain⟨x,hx,rfl⟩:=List.mem_map.1 hu
  exact ih x hx (h.arg x hx)
theorem Ex.Sm.subst {vars:List Str} {args:List Ty} (ha:∀ u,u∈args→u.Sm)(e:Ex):e.Sm→(e.subst vars args).Sm:=by
 induction e using Ex.induct with
 | h e ih =>
 intro h
 unfold Ex.subst
 rw [mapped_eq]
 refine .mk _ _ _ _ _ _ h.name (tySm_subst ha _ h.type) ?_ ?_ ?_ ?_
 ·show (e.targs.map (Ty.subst vars args)).length≤sm
  rw [List.length_map];exact h.targs.1
 ·intro t ht
  have ht:t∈e.targs.map (Ty.subst vars args):=ht
  obtain⟨u,hu,rfl⟩:=List.mem_map.1 ht
  exact tySm_subst ha _ (h.targs.2 u hu)
 ·show (e.kids.map _).length≤sm
  rw [List.length_map];exact h.kids.1
 ·intro k hk
  have hk:k∈e.kids.map (Ex.mapped (Ex.sub1 vars args)):=hk
  obtain⟨u,hu,rfl⟩:=List.mem_map.1 hk
  exact ih u hu (h.kids.2 u hu)
def replG (vars:List Str)(vals:List Ex)(e:Ex):Ex:=if e.kind=1∧0≤indexS e.name vars 0∧indexS e.name vars 0 < vals.length then (vals[(indexS e.name vars 0).toNat]?).getD e else e
def Ex.repl (vars:List Str)(vals:List Ex):Ex→Ex:=Ex.mapped (replG vars vals)
theorem ok_Repl1 (vars:List Str)(vals:List Ex)(ha:∀ u,u∈vals→u.Sm)(e:Ex) :
  CallOK Tryz.prog 195 [exV e,.dptr [.slice (strR vars)] 0,.dptr [.slice (exR vals)] 0] (exV (replG vars vals e)):=by
 have hi:=ok_Index vars e.name
 unfold replG
 generalize indexS e.name vars 0=k at *
 by_cases hk:e.kind=1
 ·have hx1:exV e=.agg [.d (.int .i64 1),.d (.str e.name),.d (.str e.type.name),.d (.slice (tyR e.type.args)),.d (.int .i64 e.type.pos),.d (.slice (tyR e.targs)),.d (.slice (exR e.kids)),.d (.int .i64 e.pos)]:=by rw [← hk]
  by_cases h0:k < 0
  ·rw [if_neg (by omega),hx1]
   (refine CallOK.of_body Tryz.func195 rfl (by decide) (by rw [Tryz.ntmps195];simp) ?_;rw [Tryz.ntmps195])
   (refine AWp.seqR [0,1,2,3,4,5,22] [] (by decide +kernel) fun K hK=>?_;simp -implicitDefEqProofs only [EV,Nat.reduceAdd,Nat.reduceEqDiff,Nat.reduceBEq,Nat.reduceLeDiff,reduceCtorEq,TF28];refine hK _ _ ?_;clear hK K)
   (refine AWp.seqR [0,1,2,3,4,5,22] [] (by decide +kernel) fun K hK=>?_;simp -implicitDefEqProofs only [EV,Nat.reduceAdd,Nat.reduceEqDiff,reduceCtorEq,TF9,TF28,TF76];refine⟨_,.inl ⟨_,rfl,hi,rfl⟩,?_⟩;(try simp -implicitDefEqProofs only [EV,]);refine hK _ _ ?_;clear hK K)
   refine AWp.seqK fun K1 hK1=>?_
   (refine AWp.seqR [0,1,2,3,4,5,22] [] (by decide +kernel) fun K hK=>?_;simp -implicitDefEqProofs only [EV,Nat.reduceEqDiff,reduceCtorEq,TF3,TF28,h0];refine hK _ _ ?_;clear hK K)
   refine AWp.takeIfK rfl ?_
   (refine AWp.seqR [0,1,2,3,4,5,22] [] (by decide +kernel) fun K hK=>?_;simp -implicitDefEqProofs only [EV,Nat.reduceAdd,Nat.reduceEqDiff,reduceCtorEq,TF28];refine hK _ _ ?_;clear hK K)
   exact AWp.ret ⟨_,by rw [Tryz.results195];rfl,rfl⟩
  ·by_cases hlt:k < vals.length
   ·rw [if_pos ⟨hk,by omega,hlt⟩]
    have hge:¬ k ≥ (vals.length:Int):=by omega
    have hx:vals[k.toNat]? = some vals[k.toNat]:=List.getElem?_eq_getElem (by omega)
    rw [hx,Option.getD_some]
    have hm:=ha _ (List.mem_of_getElem? hx)
    generalize vals[k.toNat]=u at *
    have hc:=ok_EClone u hm
    rw [hx1]
    (refine CallOK.of_body Tryz.func195 rfl (by decide) (by rw [Tryz.ntmps195];simp) ?_;rw [Tryz.ntmps195])
    (refine AWp.seqR [0,1,2,3,4,5,22] [] (by decide +kernel) fun K hK=>?_;simp -implicitDefEqProofs only [EV,Nat.reduceAdd,Nat.reduceEqDiff,Nat.reduceBEq,Nat.reduceLeDiff,reduceCtorEq,TF28];refine hK _ _ ?_;clear hK K)
    (refine AWp.seqR [0,1,2,3,4,5,22] [] (by decide +kernel) fun K hK=>?_;simp -implicitDefEqProofs only [EV,Nat.reduceAdd,Nat.reduceEqDiff,reduceCtorEq,TF9,TF28,TF76];refine⟨_,.inl ⟨_,rfl,hi,rfl⟩,?_⟩;(try simp -implicitDefEqProofs only [EV,]);refine hK _ _ ?_;clear hK K)
    refine AWp.seqK fun K1 hK1=>?_
    (refine AWp.seqR [0,1,2,3,4,5,22] [] (by decide +kernel) fun K hK=>?_;simp -implicitDefEqProofs only [EV,Nat.reduceEqDiff,reduceCtorEq,TF3,TF26,TF28,h0,hge];refine hK _ _ ?_;clear hK K)
    refine AWp.skipIfK rfl hK1 ?_
    clear hK1 K1
    (refine AWp.seqR [0,1,2,3,4,5,22] [] (by decide +kernel) fun K hK=>?_;simp -implicitDefEqProofs only [EV,Nat.reduceEqDiff,reduceCtorEq,TF26,TF28];refine⟨by omega,_,exR_get hx,rfl,?_⟩;(try simp -implicitDefEqProofs only [EV,Nat.reduceAdd,Nat.reduceEqDiff,reduceCtorEq,TF28]);refine⟨_,.inl ⟨_,rfl,hc,rfl⟩,?_⟩;(try simp -implicitDefEqProofs only [EV,Nat.reduceAdd,Nat.reduceEqDiff,reduceCtorEq,]);refine hK _ _ ?_;clear hK K)
    exact AWp.ret ⟨_,by rw [Tryz.results195];rfl,rfl⟩
   ·rw [if_neg (by omega),hx1]
    have hge:k ≥ (vals.length:Int):=by omega
    (refine CallOK.of_body Tryz.func195 rfl (by decide) (by rw [Tryz.ntmps195];simp) ?_;rw [Tryz.ntmps195])
    (refine AWp.seqR [0,1,2,3,4,5,22] [] (by decide +kernel) fun K hK=>?_;simp -implicitDefEqProofs only [EV,Nat.reduceAdd,Nat.reduceEqDiff,Nat.reduceBEq,Nat.reduceLeDiff,reduceCtorEq,TF28];refine hK _ _ ?_;clear hK K)
    (refine AWp.seqR [0,1,2,3,4,5,22] [] (by decide +kernel) fun K hK=>?_;simp -implicitDefEqProofs only [EV,Nat.reduceAdd,Nat.reduceEqDiff,reduceCtorEq,TF9,TF28,TF76];refine⟨_,.inl ⟨_,rfl,hi,rfl⟩,?_⟩;(try simp -implicitDefEqProofs only [EV,]);refine hK _ _ ?_;clear hK K)
    refine AWp.seqK fun K1 hK1=>?_
    (refine AWp.seqR [0,1,2,3,4,5,22] [] (by decide +kernel) fun K hK=>?_;simp -implicitDefEqProofs only [EV,Nat.reduceEqDiff,reduceCtorEq,TF3,TF26,TF28,h0,hge];refine hK _ _ ?_;clear hK K)
    refine AWp.takeIfK rfl ?_
    (refine AWp.seqR [0,1,2,3,4,5,22] [] (by decide +kernel) fun K hK=>?_;simp -implicitDefEqProofs only [EV,Nat.reduceAdd,Nat.reduceEqDiff,reduceCtorEq,TF28];refine hK _ _ ?_;clear hK K)
    exact AWp.ret ⟨_,by rw [Tryz.results195];rfl,rfl⟩
 ·rw [if_neg (by omega)]
  (refine CallOK.of_body Tryz.func195 rfl (by decide) (by rw [Tryz.ntmps195];simp) ?_;rw [Tryz.ntmps195])
  (refine AWp.seqR [0,1,2,3,4,5,22] [] (by decide +kernel) fun K hK=>?_;simp -implicitDefEqProofs only [EV,Nat.reduceAdd,Nat.reduceEqDiff,Nat.reduceBEq,Nat.reduceLeDiff,reduceCtorEq,TF28];refine hK _ _ ?_;clear hK K)
  (refine AWp.seqR [0,1,2,3,4,5,22] [] (by decide +kernel) fun K hK=>?_;simp -implicitDefEqProofs only [EV,Nat.reduceAdd,Nat.reduceEqDiff,reduceCtorEq,TF9,TF28,TF76];refine⟨_,.inl ⟨_,rfl,hi,rfl⟩,?_⟩;(try simp -implicitDefEqProofs only [EV,]);refine hK _ _ ?_;clear hK K)
  refine AWp.seqK fun K1 hK1=>?_
  (refine AWp.seqR [0,1,2,3,4,5,22] [] (by decide +kernel) fun K hK=>?_;simp -implicitDefEqProofs only [EV,Nat.reduceEqDiff,reduceCtorEq,TF3,TF28,hk];refine hK _ _ ?_;clear hK K)
  refine AWp.takeIfK rfl ?_
  (refine AWp.seqR [0,1,2,3,4,5,22] [] (by decide +kernel) fun K hK=>?_;simp -implicitDefEqProofs only [EV,Nat.reduceAdd,Nat.reduceEqDiff,reduceCtorEq,TF28];refine hK _ _ ?_;clear hK K)
  exact AWp.ret ⟨_,by rw [Tryz.results195];rfl,rfl⟩
theorem ok_EReplace (vars:List Str)(vals:List Ex)(ha:∀ u,u∈vals→u.Sm)(e:Ex)(he:e.Sm):CallOK Tryz.prog 147 [exV e,strsV vars,.d (.slice (exR vals))] (exV (e.repl vars vals)):=by
 have hm:=ok_mapped 195 [.dptr [.slice (strR vars)] 0,.dptr [.slice (exR vals)] 0] rfl rfl (replG vars vals)
  (fun e ks h=>ok_Repl1 vars vals ha (e.kidded ks)) e he
 have hc:=ok_EClone e he
 (refine CallOK.of_body Tryz.func147 rfl (by decide) (by rw [Tryz.ntmps147];simp) ?_;rw [Tryz.ntmps147])
 (refine AWp.seqR [0,1,2,3,4,5,6] [] (by decide +kernel) fun K hK=>?_;simp -implicitDefEqProofs only [EV,Nat.reduceAdd,Nat.reduceEqDiff,Nat.reduceBEq,Nat.reduceLeDiff,reduceCtorEq,TF28];refine hK _ _ ?_;clear hK K)
 refine AWp.freeze 4 rfl rfl ?_
 refine AWp.freeze 5 rfl rfl ?_
 refine AWp.weaken (sl':=[(3,.box 3 0),(4,.dptr [.slice (strR vars)] 0),(5,.dptr [.slice (exR vals)] 0),(6,.box 6 0)])
  (bx':=[(3,.cells ((exC e).map .d)),(6,.cells [.d (.int .i64 0),.d (.str []),.d (.str []),.d .nil,.d (.int .i64 0),.d .nil,.d .nil,.d (.int .i64 0)])])
  (by simp [subSl,SV.sub,SV.subL,sle,vle,sget]) (by simp [subBx,BoxC.sub,SV.subL,SV.sub,ble,bget,berase,exC]) ?_
 (refine AWp.seqR [0,1,2,3,4,5,6] [] (by decide +kernel) fun K hK=>?_;simp -implicitDefEqProofs only [EV,Nat.reduceAdd,Nat.reduceEqDiff,TF28];refine⟨_,.inl ⟨_,rfl,hc,rfl⟩,?_⟩;(try simp -implicitDefEqProofs only [EV,Nat.reduceEqDiff,TF28]);refine⟨_,.inl ⟨_,rfl,hm,rfl⟩,?_⟩;(try simp -implicitDefEqProofs only [EV,Nat.reduceAdd,Nat.reduceEqDiff,reduceCtorEq,]);refine hK _ _ ?_;clear hK K)
 exact AWp.ret ⟨_,by rw [Tryz.results147];rfl,rfl⟩
theorem ok_R5Subst (vars:List Str)(args:List Ty)(ha:∀ u,u∈args→u.Sm)(e:Ex):e.Sm→CallOK Tryz.prog 97 [exV e,strsV vars,tysV args] (exV (e.subst vars args)):=by
 induction e using Ex.induct with
 | h e ih =>
 intro hsm
 have hkl:=hsm.kids.1
 have h1:=ok_RSubst vars args ha e.type hsm.type
 have h2:=ok_RAll vars args ha e.targs hsm.targs.1 hsm.targs.2
 have heqn:e.subst vars args=.mk e.kind e.name (e.type.subst vars args) (e.targs.map (Ty.subst vars args)) (e.kids.map (Ex.subst vars args)) e.pos:=by
  unfold Ex.subst
  rw [mapped_eq];rfl
 rw [heqn]
 generalize e.type.subst vars args=T at *
 generalize e.targs.map (Ty.subst vars args)=A at *
 (refine CallOK.of_body Tryz.func97 rfl (by decide) (by rw [Tryz.ntmps97];simp) ?_;rw [Tryz.ntmps97])
 (refine AWp.seqR [0,1,2,3,6,7,8,30,67] [] (by decide +kernel) fun K hK=>?_;simp -implicitDefEqProofs only [EV,Nat.reduceAdd,Nat.reduceEqDiff,Nat.reduceBEq,Nat.reduceLeDiff,reduceCtorEq,TF28];refine hK _ _ ?_;clear hK K)
 (refine AWp.seqDL [0,1,2,3,6,7,8,30,67] [] 18 17 7 28 _ mixed (by decide +kernel) (by decide +kernel) ⟨by decide,⟨_,rfl,rfl,rfl,rfl⟩,by decide,(by first | exact TF28.2.2.1 | simp only [TF28])⟩ fun K hK=>?_;simp -implicitDefEqProofs only [EV,Nat.reduceAdd,Nat.reduceEqDiff,Nat.reduceLeDiff,reduceCtorEq,TF3,TF9,TF23,TF25,TF28];refine⟨_,.inl ⟨_,rfl,h1,rfl⟩,?_⟩;(try simp -implicitDefEqProofs only [EV,]);refine⟨_,.inl ⟨_,rfl,h2,rfl⟩,?_⟩;(try simp -implicitDefEqProofs only [EV,Nat.reduceAdd,Nat.reduceEqDiff,Nat.reduceBEq,Nat.reduceLeDiff,reduceCtorEq,TF28]);refine hK _ _ ?_;clear hK K)
 refine AWp.promoteBox 67 8 7 6 rfl rfl (by decide) ?_
 refine AWp.seqK fun K1 hK1=>?_
 (refine AWp.seqR [0,1,2,3,6,7,8,30,67] [] (by decide +kernel) fun K hK=>?_;simp -implicitDefEqProofs only [EV,Nat.reduceEqDiff,Nat.reduceBEq,reduceCtorEq,];refine hK _ _ ?_;clear hK K)
 refine AWp.block (AWp.forIdx e.kids (X:=Unit) (fun j _=>[(1,strsV vars),(2,tysV args),(3,.box 3 0),(6,.box 6 0),(7,.box 7 0),(8,intV j)])
  (fun j _=>[(3,.cells (exS e)),(6,.cells [.d (.int .i64 0),.d (.str []),.d (.str []),.d .nil,.d (.int .i64 0),.d .nil,.d .nil,.d (.int .i64 0)]),(7,.cells [.d (.int .i64 e.kind),.d (.str e.name),.d (.str T.name),.d (.slice (tyR T.args)),.d (.int .i64 T.pos),.d (.slice (tyR A)),.acc 67,.d (.int .i64 e.pos)]),(67,.rows 8 (exR ((e.kids.take j).map (Ex.subst vars args))))])
  (fun j _=>True) () trivial (by simp [sle,vle,sget]) (by simp [ble,bget,exR_map,exS]) ?_ ?_)
 ·intro _ _
  rw [List.take_length]
  refine AWp.seqK fun K2 hK2=>?_
  (refine AWp.seqR [0,1,2,3,6,7,8,30,67] [] (by decide +kernel) fun K hK=>?_;simp -implicitDefEqProofs only [EV,Nat.reduceEqDiff,reduceCtorEq,TF26,TF28,Int.lt_irrefl];refine hK _ _ ?_;clear hK K)
  refine AWp.stopK rfl ?_
  simp only [thenA,blockA,if_true]
  refine hK1 _ _ ?_
  (refine AWp.seqR [0,1,2,3,6,7,8,30,67] [] (by decide +kernel) fun K hK=>?_;simp -implicitDefEqProofs only [EV,Nat.reduceAdd,Nat.reduceEqDiff,reduceCtorEq,TF28];refine hK _ _ ?_;clear hK K)
  exact AWp.ret ⟨_,by rw [Tryz.results97];rfl,rfl⟩
 ·intro j _ d hd hmem hdrop htake hlt _
  rw [htake]
  refine AWp.seqK fun K2 hK2=>?_
  (refine AWp.seqR [0,1,2,3,6,7,8,30,67] [] (by decide +kernel) fun K hK=>?_;simp -implicitDefEqProofs only [EV,Nat.reduceEqDiff,reduceCtorEq,TF26,TF28,hlt];refine hK _ _ ?_;clear hK K)
  refine AWp.goOnK rfl hK2 ?_
  clear hK2 K2
  refine AWp.seqK fun K2 hK2=>?_
  refine AWp.block ?_
  (refine AWp.lastD [0,1,2,3,6,7,8,30,67] [] 11 mixed (by decide +kernel) (by decide +kernel) fun K hK=>?_;simp -implicitDefEqProofs only [EV,Nat.reduceEqDiff,reduceCtorEq,TF26,TF28];refine⟨by omega,_,exR_get hd,rfl,?_⟩;(try simp -implicitDefEqProofs only [EV,Nat.reduceAdd,Nat.reduceEqDiff,Nat.reduceBEq,Nat.reduceLeDiff,reduceCtorEq,TF26,TF28]);refine⟨_,.inl ⟨_,rfl,ih d hmem (hsm.kids.2 d hmem),rfl⟩,?_⟩;(try simp -implicitDefEqProofs only [EV,Nat.reduceAdd,Nat.reduceLeDiff,Nat.reduceMul,]);refine⟨by simp,by simp only [List.length_map,List.length_take];unfold lim sm at *;omega,?_⟩;(try simp -implicitDefEqProofs only [EV,forall_const,implies_true,Nat.reduceAdd,Nat.reduceEqDiff,Nat.reduceBEq,Nat.reduceLeDiff,Nat.reduceSub,Nat.reduceMul,Int.reduceEq,Int.reduceLT,Int.reduceLE,Int.reduceSub,Int.reduceAdd,Int.reduceToNat,reduceCtorEq,Int.reduceNeg,TF3,TF4,TF9,TF23,TF25,TF26,TF28]);refine hK _ _ ?_;clear hK K;try simp only [thenA,blockA])
  refine hK2 _ _ ?_
  clear hK2 K2
  (refine AWp.lastR [0,1,2,3,6,7,8,30,67] [] (by decide +kernel) fun K hK=>?_;simp -implicitDefEqProofs only [EV,Nat.reduceEqDiff,reduceCtorEq,];refine⟨by first | (unfold InR;omega) | (simp only [InR,sm] at *;omega),?_⟩;(try simp -implicitDefEqProofs only [EV,forall_const,implies_true,Nat.reduceAdd,Nat.reduceEqDiff,Nat.reduceBEq,Nat.reduceLeDiff,Nat.reduceSub,Nat.reduceMul,Int.reduceEq,Int.reduceLT,Int.reduceLE,Int.reduceSub,Int.reduceAdd,Int.reduceToNat,reduceCtorEq,Int.reduceNeg,TF3,TF4,TF9,TF23,TF25,TF26,TF28]);refine hK _ _ ?_;clear hK K;try simp only [thenA,])
  exact⟨(),trivial,(by simp [sle,vle,sget]),by simp [ble,bget,exR_map,exC,exS]⟩
theorem ok_R5Subst0 (k:Int)(n:Str)(T:Ty)(A:List Ty)(p:Int)(hT:T.Sm)(hA:A.length≤sm)(hA2:∀ t,t∈A→t.Sm):CallB Tryz.prog 97 [exV (.mk k n T A [] p),strsV [],tysV []] []
  (.agg [.d (.int .i64 k),.d (.str n),.d (.str T.name),.d (.slice (tyR T.args)),.d (.int .i64 T.pos),.d (.slice (tyR A)),.d .nil,.d (.int .i64 p)]) []:=by
 have h1:=ok_RSubst [] [] (by simp) T hT
 have h2:=ok_RAll [] [] (by simp) A hA hA2
 rw [subst_nil] at h1
 rw [show A.map (Ty.subst [] [])=A by rw [List.map_congr_left (g:=id) fun t _=>subst_nil t];simp] at h2
 have hx:exV (.mk k n T A [] p)=.agg [.d (.int .i64 k),.d (.str n),.d (.str T.name),.d (.slice (tyR T.args)),.d (.int .i64 T.pos),.d (.slice (tyR A)),.d (.slice (exR [])),.d (.int .i64 p)]:=rfl
 rw [hx]
 (refine CallB.of_body Tryz.func97 rfl (by decide) (by rw [Tryz.ntmps97];simp) ?_;rw [Tryz.ntmps97])
 (refine AWp.seqR [0,1,2,3,6,7,8,30,67] [] (by decide +kernel) fun K hK=>?_;simp -implicitDefEqProofs only [EV,Nat.reduceAdd,Nat.reduceEqDiff,Nat.reduceBEq,Nat.reduceLeDiff,reduceCtorEq,TF28];refine hK _ _ ?_;clear hK K)
 (refine AWp.seqDL [0,1,2,3,6,7,8,30,67] [] 18 17 7 28 _ mixed (by decide +kernel) (by decide +kernel) ⟨by decide,⟨_,rfl,rfl,rfl,rfl⟩,by decide,(by first | exact TF28.2.2.1 | simp only [TF28])⟩ fun K hK=>?_;simp -implicitDefEqProofs only [EV,Nat.reduceAdd,Nat.reduceEqDiff,Nat.reduceLeDiff,reduceCtorEq,TF3,TF9,TF23,TF25,TF28];refine⟨_,.inl ⟨_,rfl,h1,rfl⟩,?_⟩;(try simp -implicitDefEqProofs only [EV,]);refine⟨_,.inl ⟨_,rfl,h2,rfl⟩,?_⟩;(try simp -implicitDefEqProofs only [EV,Nat.reduceAdd,Nat.reduceEqDiff,Nat.reduceBEq,Nat.reduceLeDiff,reduceCtorEq,TF28]);refine hK _ _ ?_;clear hK K)
 refine AWp.seqK fun K1 hK1=>?_
 (refine AWp.seqR [0,1,2,3,6,7,8,30,67] [] (by decide +kernel) fun K hK=>?_;simp -implicitDefEqProofs only [EV,Nat.reduceEqDiff,reduceCtorEq,];refine hK _ _ ?_;clear hK K)
 refine AWp.block (AWp.forIdx ([]:List Ex) (X:=Unit) (fun j _=>[(3,.box 3 0),(6,.box 6 0),(7,.box 7 0),(8,intV j)])
  (fun j _=>[(3,.cells [.d (.int .i64 k),.d (.str n),.d (.str T.name),.d (.slice (tyR T.args)),.d (.int .i64 T.pos),.d (.slice (tyR A)),.d (.slice (exR [])),.d (.int .i64 p)]),(6,.cells [.d (.int .i64 0),.d (.str []),.d (.str []),.d .nil,.d (.int .i64 0),.d .nil,.d .nil,.d (.int .i64 0)]),(7,.cells [.d (.int .i64 k),.d (.str n),.d (.str T.name),.d (.slice (tyR T.args)),.d (.int .i64 T.pos),.d (.slice (tyR A)),.d .nil,.d (.int .i64 p)])])
  (fun j _=>True) () trivial (by simp [sle,vle,sget]) (by simp [ble,bget]) ?_ ?_)
 ·intro _ _
  refine AWp.seqK fun K2 hK2=>?_
  (refine AWp.seqR [0,1,2,3,6,7,8,30,67] [] (by decide +kernel) fun K hK=>?_;simp -implicitDefEqProofs only [EV,Nat.reduceEqDiff,reduceCtorEq,TF26,TF28,Int.lt_irrefl];refine hK _ _ ?_;clear hK K)
  refine AWp.stopK rfl ?_
  simp only [thenA,blockA,if_true]
  refine hK1 _ _ ?_
  (refine AWp.seqR [0,1,2,3,6,7,8,30,67] [] (by decide +kernel) fun K hK=>?_;simp -implicitDefEqProofs only [EV,Nat.reduceAdd,Nat.reduceEqDiff,reduceCtorEq,TF28];refine hK _ _ ?_;clear hK K)
  exact AWp.ret ⟨_,by rw [Tryz.results97];rfl,.inl rfl,by simp [ble]⟩
 ·intro j _ d hd
  simp at hd
theorem repl_eq (vars:List Str)(vals:List Ex)(e:Ex):e.repl vars vals=replG vars vals (e.kidded (e.kids.map (Ex.repl vars vals))):=by
 unfold Ex.repl;rw [mapped_eq]
theorem ok_R5Replace (vars:List Str)(vals:List Ex)(ha:∀ u,u∈vals→u.Sm)(e:Ex):e.Sm→CallOK Tryz.prog 96 [exV e,strsV vars,.d (.slice (exR vals))] (exV (e.repl vars vals)):=by
 induction e using Ex.induct with
 | h e ih =>
 intro hsm
 have hkl:=hsm.kids.1
 refine CallB.bd (Enters.of Tryz.func96 rfl (by decide)) fun hbd=>?_
 have hv:=(strs_ok hbd.2.1).1
 have heqn:=repl_eq vars vals e
 unfold replG at heqn
 rw [show (e.kidded (e.kids.map (Ex.repl vars vals))).kind=e.kind from rfl,show (e.kidded (e.kids.map (Ex.repl vars vals))).name=e.name from rfl] at heqn
 have h0:=ok_R5Subst0 e.kind e.name e.type e.targs e.pos hsm.type hsm.targs.1 hsm.targs.2
 (refine CallOK.of_body Tryz.func96 rfl (by decide) (by rw [Tryz.ntmps96];simp) ?_;rw [Tryz.ntmps96])
 (refine AWp.seqR [0,1,2,3,6,7,8,9,18,33,45,62,67] [] (by decide +kernel) fun K hK=>?_;simp -implicitDefEqProofs only [EV,Nat.reduceAdd,Nat.reduceEqDiff,Nat.reduceBEq,Nat.reduceLeDiff,reduceCtorEq,TF28];refine hK _ _ ?_;clear hK K)
 refine AWp.seqK fun K1 hK1=>?_
 (refine AWp.seqR [0,1,2,3,6,7,8,9,18,33,45,62,67] [] (by decide +kernel) fun K hK=>?_;simp -implicitDefEqProofs only [EV,Nat.reduceEqDiff,reduceCtorEq,];refine hK _ _ ?_;clear hK K)
 have fin:¬ (e.kind=1∧0≤indexS e.name vars 0∧indexS e.name vars 0 < vals.length)→∀ sl bx,sle sl [(1,strsV vars),(2,.d (.slice (exR vals))),(3,.box 3 0),(6,.box 6 0)] →
   ble bx [(3,.cells (exS e)),(6,.cells [.d (.int .i64 0),.d (.str []),.d (.str []),.d .nil,.d (.int .i64 0),.d .nil,.d .nil,.d (.int .i64 0)])]→K1 sl bx:=by
  intro hc sl bx h1 h2
  refine hK1 _ _ (AWp.weaken h1 h2 ?_)
  clear hK1 K1
  erw [if_neg hc] at heqn
  rw [heqn]
  clear heqn
  (refine AWp.seqR [0,1,2,3,6,7,8,9,18,33,45,62,67] [] (by decide +kernel) fun K hK=>?_;simp -implicitDefEqProofs only [EV,Nat.reduceAdd,Nat.reduceEqDiff,Nat.reduceBEq,Nat.reduceLeDiff,TF3,TF9,TF23,TF25,TF28];refine⟨_,.inl ⟨_,rfl,h0,rfl⟩,?_⟩;(try simp -implicitDefEqProofs only [EV,Nat.reduceAdd,Nat.reduceEqDiff,reduceCtorEq,]);refine hK _ _ ?_;clear hK K)
  refine AWp.promoteBox 67 8 8 6 rfl rfl (by decide) ?_
  refine AWp.seqK fun K1 hK1=>?_
  (refine AWp.seqR [0,1,2,3,6,7,8,9,18,33,45,62,67] [] (by decide +kernel) fun K hK=>?_;simp -implicitDefEqProofs only [EV,Nat.reduceEqDiff,Nat.reduceBEq,reduceCtorEq,];refine hK _ _ ?_;clear hK K)
  refine AWp.block (AWp.forIdx e.kids (X:=Unit) (fun j _=>[(1,strsV vars),(2,.d (.slice (exR vals))),(3,.box 3 0),(6,.box 6 0),(8,.box 8 0),(9,intV j)])
   (fun j _=>[(3,.cells (exS e)),(6,.cells [.d (.int .i64 0),.d (.str []),.d (.str []),.d .nil,.d (.int .i64 0),.d .nil,.d .nil,.d (.int .i64 0)]),(8,.cells [.d (.int .i64 e.kind),.d (.str e.name),.d (.str e.type.name),.d (.slice (tyR e.type.args)),.d (.int .i64 e.type.pos),.d (.slice (tyR e.targs)),.acc 67,.d (.int .i64 e.pos)]),(67,.rows 8 (exR ((e.kids.take j).map (Ex.repl vars vals))))])
   (fun j _=>True) () trivial (by simp [sle,vle,sget]) (by simp [ble,bget,exR_map,exS]) ?_ ?_)
  ·intro _ _
   rw [List.take_length]
   refine AWp.seqK fun K2 hK2=>?_
   (refine AWp.seqR [0,1,2,3,6,7,8,9,18,33,45,62,67] [] (by decide +kernel) fun K hK=>?_;simp -implicitDefEqProofs only [EV,Nat.reduceEqDiff,reduceCtorEq,TF26,TF28,Int.lt_irrefl];refine hK _ _ ?_;clear hK K)
   refine AWp.stopK rfl ?_
   simp only [thenA,blockA,if_true]
   refine hK1 _ _ ?_
   (refine AWp.seqR [0,1,2,3,6,7,8,9,18,33,45,62,67] [] (by decide +kernel) fun K hK=>?_;simp -implicitDefEqProofs only [EV,Nat.reduceAdd,Nat.reduceEqDiff,reduceCtorEq,TF28];refine hK _ _ ?_;clear hK K)
   exact AWp.ret ⟨_,by rw [Tryz.results96];rfl,rfl⟩
  ·intro j _ d hd hmem hdrop htake hlt _
   rw [htake]
   refine AWp.seqK fun K2 hK2=>?_
   (refine AWp.seqR [0,1,2,3,6,7,8,9,18,33,45,62,67] [] (by decide +kernel) fun K hK=>?_;simp -implicitDefEqProofs only [EV,Nat.reduceEqDiff,reduceCtorEq,TF26,TF28,hlt];refine hK _ _ ?_;clear hK K)
   refine AWp.goOnK rfl hK2 ?_
   clear hK2 K2
   refine AWp.seqK fun K2 hK2=>?_
   refine AWp.block ?_
   (refine AWp.lastD [0,1,2,3,6,7,8,9,18,33,45,62,67] [] 11 mixed (by decide +kernel) (by decide +kernel) fun K hK=>?_;simp -implicitDefEqProofs only [EV,Nat.reduceEqDiff,reduceCtorEq,TF26,TF28];refine⟨by omega,_,exR_get hd,rfl,?_⟩;(try simp -implicitDefEqProofs only [EV,Nat.reduceAdd,Nat.reduceEqDiff,Nat.reduceBEq,Nat.reduceLeDiff,reduceCtorEq,TF26,TF28]);refine⟨_,.inl ⟨_,rfl,ih d hmem (hsm.kids.2 d hmem),rfl⟩,?_⟩;(try simp -implicitDefEqProofs only [EV,Nat.reduceAdd,Nat.reduceLeDiff,Nat.reduceMul,]);refine⟨by simp,by simp only [List.length_map,List.length_take];unfold lim sm at *;omega,?_⟩;(try simp -implicitDefEqProofs only [EV,forall_const,implies_true,Nat.reduceAdd,Nat.reduceEqDiff,Nat.reduceBEq,Nat.reduceLeDiff,Nat.reduceSub,Nat.reduceMul,Int.reduceEq,Int.reduceLT,Int.reduceLE,Int.reduceSub,Int.reduceAdd,Int.reduceToNat,reduceCtorEq,Int.reduceNeg,TF3,TF4,TF9,TF23,TF25,TF26,TF28,TF76]);refine hK _ _ ?_;clear hK K;try simp only [thenA,blockA])
   refine hK2 _ _ ?_
   clear hK2 K2
   (refine AWp.lastR [0,1,2,3,6,7,8,9,18,33,45,62,67] [] (by decide +kernel) fun K hK=>?_;simp -implicitDefEqProofs only [EV,Nat.reduceEqDiff,reduceCtorEq,];refine⟨by first | (unfold InR;omega) | (simp only [InR,sm,lim] at *;omega),?_⟩;(try simp -implicitDefEqProofs only [EV,forall_const,implies_true,Nat.reduceAdd,Nat.reduceEqDiff,Nat.reduceBEq,Nat.reduceLeDiff,Nat.reduceSub,Nat.reduceMul,Int.reduceEq,Int.reduceLT,Int.reduceLE,Int.reduceSub,Int.reduceAdd,Int.reduceToNat,reduceCtorEq,Int.reduceNeg,TF3,TF4,TF9,TF23,TF25,TF26,TF28,TF76]);refine hK _ _ ?_;clear hK K;try simp only [thenA,])
   exact⟨(),trivial,(by simp [sle,vle,sget]),by simp [ble,bget,exR_map,exC,exS]⟩
 by_cases hk:e.kind=1
 ·have hx1:exS e=[.d (.int .i64 1),.d (.str e.name),.d (.str e.type.name),.d (.slice (tyR e.type.args)),.d (.int .i64 e.type.pos),.d (.slice (tyR e.targs)),.d (.slice (exR e.kids)),.d (.int .i64 e.pos)]:=by rw [← hk]
  rw [hx1] at fin
  refine AWp.block (AWp.forIdx vars (X:=Unit) (fun j _=>[(1,strsV vars),(2,.d (.slice (exR vals))),(3,.box 3 0),(6,.box 6 0),(7,intV j)])
   (fun _ _=>[(3,.cells [.d (.int .i64 1),.d (.str e.name),.d (.str e.type.name),.d (.slice (tyR e.type.args)),.d (.int .i64 e.type.pos),.d (.slice (tyR e.targs)),.d (.slice (exR e.kids)),.d (.int .i64 e.pos)]),(6,.cells [.d (.int .i64 0),.d (.str []),.d (.str []),.d .nil,.d (.int .i64 0),.d .nil,.d .nil,.d (.int .i64 0)])])
   (fun j _=>indexS e.name (vars.drop j) j=indexS e.name vars 0) () rfl (by simp [sle,vle,sget]) (by simp [ble,bget,hk]) ?_ ?_)
  ·intro _ hI
   refine AWp.seqK fun K2 hK2=>?_
   (refine AWp.seqR [0,1,2,3,6,7,8,9,18,33,45,62,67] [] (by decide +kernel) fun K hK=>?_;simp -implicitDefEqProofs only [EV,Nat.reduceEqDiff,reduceCtorEq,TF76,Int.lt_irrefl];refine hK _ _ ?_;clear hK K)
   refine AWp.stopK rfl ?_
   simp only [thenA,blockA,if_true]
   rw [List.drop_length,indexS] at hI
   exact fin (by rw [← hI];simp) _ _ (by simp [sle,vle,sget]) (by simp [ble,bget,])
  ·intro j _ d hd hmem hdrop htake hlt hI
   rw [hdrop,indexS] at hI
   refine AWp.seqK fun K2 hK2=>?_
   (refine AWp.seqR [0,1,2,3,6,7,8,9,18,33,45,62,67] [] (by decide +kernel) fun K hK=>?_;simp -implicitDefEqProofs only [EV,Nat.reduceEqDiff,reduceCtorEq,TF3,TF28,TF76,hlt];refine hK _ _ ?_;clear hK K)
   refine AWp.goOnK rfl hK2 ?_
   clear hK2 K2
   refine AWp.seqK fun K2 hK2=>?_
   refine AWp.block ?_
   by_cases hn:e.name=d
   ·rw [if_pos hn] at hI
    by_cases hlt2:(j:Int) < (vals.length:Int)
    ·have hx:vals[j]? = some vals[j]:=List.getElem?_eq_getElem (by omega)
     rw [← hI,if_pos ⟨hk,by omega,hlt2⟩,Int.toNat_natCast,hx,Option.getD_some] at heqn
     have hm:=ha _ (List.mem_of_getElem? hx)
     generalize vals[j]=u at *
     have hc:=ok_R5Subst [] [] (by simp) u hm
     rw [esubst_nil] at hc
     rw [heqn]
     refine AWp.seqK fun K3 hK3=>?_
     (refine AWp.seqD [0,1,2,3,6,7,8,9,18,33,45,62,67] [] 13 mixed (by decide +kernel) (by decide +kernel) fun K hK=>?_;simp -implicitDefEqProofs only [EV,Nat.reduceEqDiff,reduceCtorEq,TF9,TF76,];refine⟨by omega,_,strR_get hd,rfl,?_⟩;(try simp -implicitDefEqProofs only [EV,Nat.reduceEqDiff,reduceCtorEq,TF9,TF26,TF28,hn.symm,hlt2]);refine hK _ _ ?_;clear hK K)
     refine AWp.takeIfK rfl ?_
     (refine AWp.seqR [0,1,2,3,6,7,8,9,18,33,45,62,67] [] (by decide +kernel) fun K hK=>?_;simp -implicitDefEqProofs only [EV,Nat.reduceEqDiff,reduceCtorEq,TF26,TF28];refine⟨by omega,_,exR_get hx,rfl,?_⟩;(try simp -implicitDefEqProofs only [EV,Nat.reduceAdd,Nat.reduceEqDiff,reduceCtorEq,TF28]);refine⟨_,.inl ⟨_,rfl,hc,rfl⟩,?_⟩;(try simp -implicitDefEqProofs only [EV,Nat.reduceAdd,Nat.reduceEqDiff,reduceCtorEq,]);refine hK _ _ ?_;clear hK K)
     exact AWp.ret ⟨_,by rw [Tryz.results96];rfl,rfl⟩
    ·refine AWp.seqK fun K3 hK3=>?_
     (refine AWp.seqD [0,1,2,3,6,7,8,9,18,33,45,62,67] [] 13 mixed (by decide +kernel) (by decide +kernel) fun K hK=>?_;simp -implicitDefEqProofs only [EV,Nat.reduceEqDiff,reduceCtorEq,TF9,TF76,];refine⟨by omega,_,strR_get hd,rfl,?_⟩;(try simp -implicitDefEqProofs only [EV,Nat.reduceEqDiff,reduceCtorEq,TF9,TF26,TF28,hn.symm,hlt2]);refine hK _ _ ?_;clear hK K)
     refine AWp.skipIfK rfl hK3 ?_
     clear hK3 K3
     (refine AWp.seqD [0,1,2,3,6,7,8,9,18,33,45,62,67] [] 7 mixed (by decide +kernel) (by decide +kernel) fun K hK=>?_;simp -implicitDefEqProofs only [EV,Nat.reduceEqDiff,reduceCtorEq,TF9,TF76];refine⟨by omega,_,strR_get hd,rfl,?_⟩;(try simp -implicitDefEqProofs only [EV,Nat.reduceEqDiff,reduceCtorEq,TF9,TF28,hn.symm]);refine hK _ _ ?_;clear hK K)
     refine AWp.condT rfl (AWp.exit ?_)
     simp only [thenA,blockA,reduceIte,Nat.zero_ne_one]
     have hj:indexS e.name vars 0=(j:Int):=hI.symm
     exact fin (by rw [hj];omega) _ _ (by simp [sle,vle,sget]) (by simp [ble,bget,])
   ·rw [if_neg hn] at hI
    have hn':¬ d=e.name:=fun h=>hn h.symm
    refine AWp.seqK fun K3 hK3=>?_
    (refine AWp.seqD [0,1,2,3,6,7,8,9,18,33,45,62,67] [] 13 mixed (by decide +kernel) (by decide +kernel) fun K hK=>?_;simp -implicitDefEqProofs only [EV,Nat.reduceEqDiff,reduceCtorEq,TF9,TF76];refine⟨by omega,_,strR_get hd,rfl,?_⟩;(try simp -implicitDefEqProofs only [EV,Nat.reduceEqDiff,reduceCtorEq,TF9,TF28,hn']);refine hK _ _ ?_;clear hK K)
    refine AWp.skipIfK rfl hK3 ?_
    clear hK3 K3
    (refine AWp.seqD [0,1,2,3,6,7,8,9,18,33,45,62,67] [] 7 mixed (by decide +kernel) (by decide +kernel) fun K hK=>?_;simp -implicitDefEqProofs only [EV,Nat.reduceEqDiff,reduceCtorEq,TF9,TF76];refine⟨by omega,_,strR_get hd,rfl,?_⟩;(try simp -implicitDefEqProofs only [EV,Nat.reduceEqDiff,reduceCtorEq,TF9,TF28,hn']);refine hK _ _ ?_;clear hK K)
    refine AWp.condF rfl (AWp.skip (hK2 _ _ ?_))
    clear hK2 K2
    (refine AWp.lastR [0,1,2,3,6,7,8,9,18,33,45,62,67] [] (by decide +kernel) fun K hK=>?_;simp -implicitDefEqProofs only [EV,Nat.reduceEqDiff,reduceCtorEq,];refine⟨by first | (unfold InR;omega) | (simp only [InR,sm,lim] at *;omega),?_⟩;(try simp -implicitDefEqProofs only [EV,forall_const,implies_true,Nat.reduceAdd,Nat.reduceEqDiff,Nat.reduceBEq,Nat.reduceLeDiff,Nat.reduceSub,Nat.reduceMul,Int.reduceEq,Int.reduceLT,Int.reduceLE,Int.reduceSub,Int.reduceAdd,Int.reduceToNat,reduceCtorEq,Int.reduceNeg,TF3,TF4,TF9,TF23,TF25,TF26,TF28,TF76]);refine hK _ _ ?_;clear hK K;try simp only [thenA,])
    exact⟨(),hI,(by simp [sle,vle,sget]),(by simp [ble,bget,])⟩
 ·have hno:¬ (e.kind=1∧0≤indexS e.name vars 0∧indexS e.name vars 0 < vals.length):=fun h=>hk h.1
  refine AWp.block (AWp.forIdx ([]:List Nat) (X:=Unit) (fun j _=>[(1,strsV vars),(2,.d (.slice (exR vals))),(3,.box 3 0),(6,.box 6 0),(7,intV 0)])
   (fun _ _=>[(3,.cells (exS e)),(6,.cells [.d (.int .i64 0),.d (.str []),.d (.str []),.d .nil,.d (.int .i64 0),.d .nil,.d .nil,.d (.int .i64 0)])])
   (fun j _=>True) () trivial (by simp [sle,vle,sget]) (by simp [ble,bget,exS]) ?_ ?_)
  ·intro _ _
   refine AWp.seqK fun K2 hK2=>?_
   by_cases he:(0:Int) < (vars.length:Int)
   ·(refine AWp.seqR [0,1,2,3,6,7,8,9,18,33,45,62,67] [] (by decide +kernel) fun K hK=>?_;simp -implicitDefEqProofs only [EV,Nat.reduceEqDiff,reduceCtorEq,TF3,TF28,TF76,hk,he];refine hK _ _ ?_;clear hK K)
    refine AWp.stopK rfl ?_
    simp only [thenA,blockA,if_true]
    exact fin hno _ _ (by simp [sle,vle,sget]) (by simp [ble,bget,exS])
   ·(refine AWp.seqR [0,1,2,3,6,7,8,9,18,33,45,62,67] [] (by decide +kernel) fun K hK=>?_;simp -implicitDefEqProofs only [EV,Nat.reduceEqDiff,reduceCtorEq,TF76,he];refine hK _ _ ?_;clear hK K)
    refine AWp.stopK rfl ?_
    simp only [thenA,blockA,if_true]
    exact fin hno _ _ (by simp [sle,vle,sget]) (by simp [ble,bget,exS])
  ·intro j _ d hd
   simp at hd
end Go.Abs
