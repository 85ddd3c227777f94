/- the redex of an expression: step.Redex, castingsref25.Redex; castingsref25.Step, given its redex -/
import Derived.Test.YtenheogknlmohaaGreatDoorYS39
namespace Go.Abs
set_option linter.unusedSimpArgs false
set_option linter.unusedVariables false
open Go Go.Proofs
set_option maxRecDepth 100000
set_option maxHeartbeats 1000000
mutual
def rdxE:Ex→Ex × Bool
 | .mk k n t a ks q=>match rdxL ks with
  | some r=>r
  | none=>(.mk k n t a ks q,!decide (k=3))
def rdxL:List Ex→Option (Ex × Bool)
 | []=>none
 | k::ks=>if isVal k=true then rdxL ks else some (rdxE k)
end
theorem rdxE_eq (e:Ex):rdxE e=match rdxL e.kids with
  | some r=>r
  | none=>(e,!decide (e.kind=3)):=by
 cases e with | mk k n t a ks q=>rw [rdxE];rfl
theorem rdxL_cases:∀ l:List Ex,(idxF (fun k=>!isVal k) l = -1∧rdxL l=none∧isValL l=true)∨∃ (i:Nat)(k:Ex),idxF (fun k=>!isVal k) l=i∧l[i]? = some k∧isVal k=false∧isValL l=false∧rdxL l=some (rdxE k)
 | []=>.inl ⟨rfl,by rw [rdxL],by rw [isValL]⟩
 | x::l=>by
  rw [idxF_cons,rdxL,isValL]
  cases hx:isVal x with
  | false=>exact .inr ⟨0,x,by simp,rfl,hx,rfl,by simp⟩
  | true =>
   simp only [Bool.not_true,Bool.false_eq_true,if_false,if_true,Bool.true_and]
   rcases rdxL_cases l with ⟨h1,h2,h3⟩ | ⟨i,k,h1,h2,h3,h4,h5⟩
   ·exact .inl ⟨by rw [h1];rfl,h2,h3⟩
   ·exact .inr ⟨i+1,k,by rw [h1,if_neg (by omega)];omega,by simpa using h2,h3,h4,h5⟩
abbrev rdxV (r:Ex × Bool):SV:=.tuple [exV r.1,boolV r.2]
theorem ok_SRedex (e:Ex):e.Sm→CallOK Tryz.prog 18 [exV e] (rdxV (rdxE e)):=by
 induction e using Ex.induct with
 | h e ih =>
 intro he
 have hv:=ok_Value e
 have hf:=ok_first e he
 have hc:=ok_EClone e he
 rw [rdxE_eq]
 rw [isVal_eq] at hv
 rcases rdxL_cases e.kids with ⟨h1,h2,h3⟩ | ⟨i,k,h1,h2,h3,h4,h5⟩
 ·have h1':firstK1 e = -1:=h1
  rw [h1'] at hf
  rw [h3,Bool.true_and] at hv
  rw [h2]
  simp only
  by_cases hk:e.kind=3
  ·simp only [decide_eq_true hk,Bool.not_true] at *
   (refine CallOK.of_body Tryz.func18 rfl (by decide) (by rw [Tryz.ntmps18];simp) ?_;rw [Tryz.ntmps18])
   (refine AWp.seqR [0,1,2,3,4,6,12] [] (by decide +kernel) fun K hK=>?_;simp -implicitDefEqProofs only [EV,Nat.reduceEqDiff,Nat.reduceBEq,Nat.reduceLeDiff,reduceCtorEq,TF28];refine hK _ _ ?_;clear hK K)
   refine AWp.seqK fun K1 hK1=>?_
   (refine AWp.seqR [0,1,2,3,4,6,12] [] (by decide +kernel) fun K hK=>?_;simp -implicitDefEqProofs only [EV,Nat.reduceAdd,Nat.reduceEqDiff,reduceCtorEq,TF28];refine⟨_,.inl ⟨_,rfl,hv,rfl⟩,?_⟩;(try simp -implicitDefEqProofs only [EV,]);refine hK _ _ ?_;clear hK K)
   refine AWp.takeIfK rfl ?_
   (refine AWp.seqR [0,1,2,3,4,6,12] [] (by decide +kernel) fun K hK=>?_;simp -implicitDefEqProofs only [EV,Nat.reduceAdd,Nat.reduceEqDiff,reduceCtorEq,TF28];refine⟨_,.inl ⟨_,rfl,hc,rfl⟩,?_⟩;(try simp -implicitDefEqProofs only [EV,Nat.reduceAdd,Nat.reduceEqDiff,reduceCtorEq,]);refine hK _ _ ?_;clear hK K)
   exact AWp.ret ⟨_,by rw [Tryz.results18];rfl,rfl⟩
  ·simp only [decide_eq_false hk,Bool.not_false] at *
   (refine CallOK.of_body Tryz.func18 rfl (by decide) (by rw [Tryz.ntmps18];simp) ?_;rw [Tryz.ntmps18])
   (refine AWp.seqR [0,1,2,3,4,6,12] [] (by decide +kernel) fun K hK=>?_;simp -implicitDefEqProofs only [EV,Nat.reduceEqDiff,Nat.reduceBEq,Nat.reduceLeDiff,reduceCtorEq,TF28];refine hK _ _ ?_;clear hK K)
   refine AWp.seqK fun K1 hK1=>?_
   (refine AWp.seqR [0,1,2,3,4,6,12] [] (by decide +kernel) fun K hK=>?_;simp -implicitDefEqProofs only [EV,Nat.reduceAdd,Nat.reduceEqDiff,reduceCtorEq,TF28];refine⟨_,.inl ⟨_,rfl,hv,rfl⟩,?_⟩;(try simp -implicitDefEqProofs only [EV,]);refine hK _ _ ?_;clear hK K)
   refine AWp.skipIfK rfl hK1 ?_
   clear hK1 K1
   refine AWp.seqK fun K1 hK1=>?_
   (refine AWp.seqR [0,1,2,3,4,6,12] [] (by decide +kernel) fun K hK=>?_;simp -implicitDefEqProofs only [EV,Nat.reduceAdd,Nat.reduceEqDiff,reduceCtorEq,TF28];refine⟨_,.inl ⟨_,rfl,hf,rfl⟩,?_⟩;(try simp -implicitDefEqProofs only [EV,Int.reduceNeg,]);refine hK _ _ ?_;clear hK K)
   (refine AWp.seqR [0,1,2,3,4,6,12] [] (by decide +kernel) fun K hK=>?_;simp -implicitDefEqProofs only [EV,Nat.reduceEqDiff,Int.reduceLE,reduceCtorEq,Int.reduceNeg,];refine hK _ _ ?_;clear hK K)
   refine AWp.skipIfK rfl hK1 ?_
   (refine AWp.seqR [0,1,2,3,4,6,12] [] (by decide +kernel) fun K hK=>?_;simp -implicitDefEqProofs only [EV,Nat.reduceAdd,Nat.reduceEqDiff,reduceCtorEq,Int.reduceNeg,TF28];refine⟨_,.inl ⟨_,rfl,hc,rfl⟩,?_⟩;(try simp -implicitDefEqProofs only [EV,Nat.reduceAdd,Nat.reduceEqDiff,reduceCtorEq,Int.reduceNeg,]);refine hK _ _ ?_;clear hK K)
   exact AWp.ret ⟨_,by rw [Tryz.results18];rfl,rfl⟩
 ·have h1':firstK1 e=i:=h1
  rw [h1'] at hf
  rw [h4,Bool.false_and] at hv
  rw [h5]
  simp only
  have hkm:=List.mem_of_getElem? h2
  have hik:=ih k hkm (he.kids.2 k hkm)
  have hil:=(List.getElem?_eq_some_iff.1 h2).1
  have hi0:(i:Int) ≥ 0:=by omega
  generalize rdxE k=r at *
  obtain⟨k',o⟩:=r
  (refine CallOK.of_body Tryz.func18 rfl (by decide) (by rw [Tryz.ntmps18];simp) ?_;rw [Tryz.ntmps18])
  (refine AWp.seqR [0,1,2,3,4,6,12] [] (by decide +kernel) fun K hK=>?_;simp -implicitDefEqProofs only [EV,Nat.reduceEqDiff,Nat.reduceBEq,Nat.reduceLeDiff,reduceCtorEq,TF28];refine hK _ _ ?_;clear hK K)
  refine AWp.seqK fun K1 hK1=>?_
  (refine AWp.seqR [0,1,2,3,4,6,12] [] (by decide +kernel) fun K hK=>?_;simp -implicitDefEqProofs only [EV,Nat.reduceAdd,Nat.reduceEqDiff,reduceCtorEq,TF28];refine⟨_,.inl ⟨_,rfl,hv,rfl⟩,?_⟩;(try simp -implicitDefEqProofs only [EV,]);refine hK _ _ ?_;clear hK K)
  refine AWp.skipIfK rfl hK1 ?_
  clear hK1 K1
  refine AWp.seqK fun K1 hK1=>?_
  (refine AWp.seqR [0,1,2,3,4,6,12] [] (by decide +kernel) fun K hK=>?_;simp -implicitDefEqProofs only [EV,Nat.reduceAdd,Nat.reduceEqDiff,reduceCtorEq,TF28];refine⟨_,.inl ⟨_,rfl,hf,rfl⟩,?_⟩;(try simp -implicitDefEqProofs only [EV,]);refine hK _ _ ?_;clear hK K)
  (refine AWp.seqR [0,1,2,3,4,6,12] [] (by decide +kernel) fun K hK=>?_;simp -implicitDefEqProofs only [EV,Nat.reduceEqDiff,reduceCtorEq,hi0];refine hK _ _ ?_;clear hK K)
  refine AWp.takeIfK rfl ?_
  (refine AWp.seqR [0,1,2,3,4,6,12] [] (by decide +kernel) fun K hK=>?_;simp -implicitDefEqProofs only [EV,Nat.reduceEqDiff,reduceCtorEq,TF26,TF28];refine⟨by omega,_,exR_get h2,rfl,?_⟩;(try simp -implicitDefEqProofs only [EV,Nat.reduceAdd,Nat.reduceEqDiff,reduceCtorEq,]);refine⟨_,.inl ⟨_,rfl,hik,rfl⟩,?_⟩;(try simp -implicitDefEqProofs only [EV,Nat.reduceAdd,Nat.reduceEqDiff,reduceCtorEq,TF28]);refine hK _ _ ?_;clear hK K)
  exact AWp.ret ⟨_,by rw [Tryz.results18];rfl,rfl⟩
theorem rdxL_drop {l:List Ex} {j:Nat} {d:Ex} (hd:l.drop j=d::l.drop (j+1)):rdxL (l.drop j)=if isVal d=true then rdxL (l.drop (j+1)) else some (rdxE d):=by rw [hd,rdxL]
theorem ok_RRedex (e:Ex):e.Sm→CallOK Tryz.prog 19 [exV e] (rdxV (rdxE e)):=by
 induction e using Ex.induct with
 | h e ih =>
 intro he
 have hkl:=he.kids.1
 rw [rdxE_eq]
 (refine CallOK.of_body Tryz.func19 rfl (by decide) (by rw [Tryz.ntmps19];simp) ?_;rw [Tryz.ntmps19])
 (refine AWp.seqR [0,1,2,3,4,9,18] [] (by decide +kernel) fun K hK=>?_;simp -implicitDefEqProofs only [EV,Nat.reduceEqDiff,Nat.reduceBEq,Nat.reduceLeDiff,reduceCtorEq,TF28];refine hK _ _ ?_;clear hK K)
 refine AWp.seqK fun K1 hK1=>?_
 (refine AWp.seqR [0,1,2,3,4,9,18] [] (by decide +kernel) fun K hK=>?_;simp -implicitDefEqProofs only [EV,Nat.reduceEqDiff,reduceCtorEq,];refine hK _ _ ?_;clear hK K)
 refine AWp.block (AWp.forIdx e.kids (X:=Unit) (fun j _=>[(1,.box 1 0),(2,.box 2 0),(3,.d (.bool false)),(4,intV j)])
  (fun j _=>[(1,.cells (exS e)),(2,.cells [.d (.int .i64 0),.d (.str []),.d (.str []),.d .nil,.d (.int .i64 0),.d .nil,.d .nil,.d (.int .i64 0)])])
  (fun j _=>rdxL (e.kids.drop j)=rdxL e.kids) () rfl (by simp [sle,vle,sget]) (by simp [ble,bget,exS]) ?_ ?_)
 ·intro _ hI
  rw [List.drop_length,rdxL] at hI
  refine AWp.seqK fun K2 hK2=>?_
  (refine AWp.seqR [0,1,2,3,4,9,18] [] (by decide +kernel) fun K hK=>?_;simp -implicitDefEqProofs only [EV,Nat.reduceEqDiff,reduceCtorEq,TF26,TF28,Int.lt_irrefl];refine hK _ _ ?_;clear hK K)
  refine AWp.stopK rfl ?_
  simp only [thenA,blockA,if_true]
  refine hK1 _ _ ?_
  clear hK1 K1 hK2 K2
  have hb:(match rdxL e.kids with | some r=>r | none=>(e,!decide (e.kind=3)))=(e,decide (¬ e.kind=3)):=by rw [← hI];simp
  rw [hb]
  (refine AWp.seqDS [0,1,2,3,4,9,18] [] 6 4 2 rfl rfl mixed (by decide +kernel) (by decide +kernel) ⟨by decide,⟨_,rfl,rfl,rfl⟩⟩ fun K hK=>?_;simp -implicitDefEqProofs only [EV,Nat.reduceAdd,Nat.reduceEqDiff,reduceCtorEq,TF3,TF28];refine doneSV_ok rfl ?_;simp -implicitDefEqProofs only [EV,Nat.reduceEqDiff,reduceCtorEq,];refine hK _ _ ?_;clear hK K)
  exact AWp.ret ⟨_,by rw [Tryz.results19];rfl,rfl⟩
 ·intro j _ d hd hmem hdrop htake hlt hI
  have hv:=ok_RefValue d (he.kids.2 d hmem)
  rw [rdxL_drop hdrop] at hI
  refine AWp.seqK fun K2 hK2=>?_
  (refine AWp.seqR [0,1,2,3,4,9,18] [] (by decide +kernel) fun K hK=>?_;simp -implicitDefEqProofs only [EV,Nat.reduceEqDiff,reduceCtorEq,TF26,TF28,hlt];refine hK _ _ ?_;clear hK K)
  refine AWp.goOnK rfl hK2 ?_
  clear hK2 K2
  refine AWp.seqK fun K2 hK2=>?_
  refine AWp.block ?_
  cases hval:isVal d with
  | true =>
   rw [hval] at hv hI
   rw [if_pos rfl] at hI
   (refine AWp.seqR [0,1,2,3,4,9,18] [] (by decide +kernel) fun K hK=>?_;simp -implicitDefEqProofs only [EV,Nat.reduceEqDiff,reduceCtorEq,TF26,TF28];refine⟨by omega,_,exR_get hd,rfl,?_⟩;(try simp -implicitDefEqProofs only [EV,Nat.reduceAdd,Nat.reduceEqDiff,reduceCtorEq,]);refine⟨_,.inl ⟨_,rfl,hv,rfl⟩,?_⟩;(try simp -implicitDefEqProofs only [EV,Nat.reduceEqDiff,reduceCtorEq,]);refine hK _ _ ?_;clear hK K)
   refine AWp.condF rfl (AWp.skip (hK2 _ _ ?_))
   clear hK2 K2
   (refine AWp.lastR [0,1,2,3,4,9,18] [] (by decide +kernel) fun K hK=>?_;simp -implicitDefEqProofs only [EV,Nat.reduceEqDiff,reduceCtorEq,];refine⟨by first | (unfold InR;omega) | (simp only [InR,sm] at *;omega),?_⟩;(try simp -implicitDefEqProofs only [EV,forall_const,implies_true,Nat.reduceAdd,Nat.reduceEqDiff,Nat.reduceBEq,Nat.reduceLeDiff,Nat.reduceSub,Nat.reduceMul,Int.reduceEq,Int.reduceLT,Int.reduceLE,Int.reduceSub,Int.reduceAdd,Int.reduceToNat,reduceCtorEq,Int.reduceNeg,TF3,TF4,TF9,TF26,TF28]);refine hK _ _ ?_;clear hK K;try simp only [thenA,])
   exact⟨(),hI,(by simp [sle,vle,sget]),by simp [ble,bget,exS]⟩
  | false =>
   rw [hval] at hv hI
   rw [if_neg (by decide)] at hI
   have hid:=ih d hmem (he.kids.2 d hmem)
   rw [← hI]
   simp only
   generalize rdxE d=r at *
   obtain⟨k',o⟩:=r
   (refine AWp.seqR [0,1,2,3,4,9,18] [] (by decide +kernel) fun K hK=>?_;simp -implicitDefEqProofs only [EV,Nat.reduceEqDiff,reduceCtorEq,TF26,TF28];refine⟨by omega,_,exR_get hd,rfl,?_⟩;(try simp -implicitDefEqProofs only [EV,Nat.reduceAdd,Nat.reduceEqDiff,reduceCtorEq,]);refine⟨_,.inl ⟨_,rfl,hv,rfl⟩,?_⟩;(try simp -implicitDefEqProofs only [EV,Nat.reduceEqDiff,reduceCtorEq,]);refine hK _ _ ?_;clear hK K)
   refine AWp.condT rfl ?_
   (refine AWp.seqR [0,1,2,3,4,9,18] [] (by decide +kernel) fun K hK=>?_;simp -implicitDefEqProofs only [EV,Nat.reduceEqDiff,reduceCtorEq,TF26,TF28];refine⟨by omega,_,exR_get hd,rfl,?_⟩;(try simp -implicitDefEqProofs only [EV,Nat.reduceAdd,Nat.reduceEqDiff,reduceCtorEq,]);refine⟨_,.inl ⟨_,rfl,hid,rfl⟩,?_⟩;(try simp -implicitDefEqProofs only [EV,Nat.reduceAdd,Nat.reduceEqDiff,reduceCtorEq,TF28]);refine hK _ _ ?_;clear hK K)
   exact AWp.ret ⟨_,by rw [Tryz.results19];rfl,rfl⟩
theorem stepL_at {p:Prog} {l:List Ex} {j:Nat} {k:Ex} (h1:∀ x,x∈l.take j→isVal x=true)(h2:l[j]? = some k)(h3:isVal k=false):stepL p l=some (l.set j (stepE p k).1,(stepE p k).2):=by
 have hi:idxF (fun k=>!isVal k) l=(j:Int):=idxF_some h2 (by rw [h3];rfl) fun y hy=>by rw [h1 y hy];rfl
 rcases stepL_cases p l with ⟨g1,_⟩ | ⟨i,k',g1,g2,_,_,g5⟩
 ·rw [hi] at g1;omega
 ·have:i=j:=by rw [hi] at g1;omega
  subst this
  rw [h2] at g2;simp only [Option.some.injEq] at g2;subst g2
  exact g5
theorem stepL_none {p:Prog} {l:List Ex} (h1:∀ x,x∈l→isVal x=true):stepL p l=none:=by
 rcases stepL_cases p l with ⟨_,g2⟩ | ⟨i,k',_,g2,g3,_⟩
 ·exact g2
 ·rw [h1 k' (List.mem_of_getElem? g2)] at g3;cases g3
theorem ok_RStep (p:Prog)(hr:∀ e:Ex,e.Sm→(∀ x,x∈e.kids→isVal x=true)→CallOK Tryz.prog 52 [prV p,exV e] (resV (redexE p e)))(e:Ex):e.Sm→CallOK Tryz.prog 15 [prV p,exV e] (resV (stepE p e)):=by
 induction e using Ex.induct with
 | h e ih =>
 intro he
 have hkl:=he.kids.1
 (refine CallOK.of_body Tryz.func15 rfl (by decide) (by rw [Tryz.ntmps15];simp) ?_;rw [Tryz.ntmps15])
 (refine AWp.seqR [0,1,2,3,4,5,6,7,8,9,14,22,34,38] [] (by decide +kernel) fun K hK=>?_;simp -implicitDefEqProofs only [EV,Nat.reduceAdd,Nat.reduceEqDiff,Nat.reduceBEq,Nat.reduceLeDiff,reduceCtorEq,TF28];refine hK _ _ ?_;clear hK K)
 refine AWp.seqK fun K1 hK1=>?_
 (refine AWp.seqR [0,1,2,3,4,5,6,7,8,9,14,22,34,38] [] (by decide +kernel) fun K hK=>?_;simp -implicitDefEqProofs only [EV,Nat.reduceEqDiff,reduceCtorEq,];refine hK _ _ ?_;clear hK K)
 refine AWp.block (AWp.forIdx e.kids (X:=Unit) (fun j _=>[(2,.box 2 0),(3,.box 3 0),(4,.box 4 0),(6,intV j)])
  (fun j _=>[(2,.cells ((prC p).map .d)),(3,.cells (exS e)),(4,.cells [.d (.int .i64 0),.d (.str []),.d (.str []),.d .nil,.d (.int .i64 0),.d .nil,.d .nil,.d (.int .i64 0)])])
  (fun j _=>∀ x,x∈e.kids.take j→isVal x=true) () (by simp) (by simp [sle,vle,sget]) (by simp [ble,bget,exS,prC]) ?_ ?_)
 ·intro _ hI
  rw [List.take_length] at hI
  have hre:=hr e he hI
  refine AWp.seqK fun K2 hK2=>?_
  (refine AWp.seqR [0,1,2,3,4,5,6,7,8,9,14,22,34,38] [] (by decide +kernel) fun K hK=>?_;simp -implicitDefEqProofs only [EV,Nat.reduceEqDiff,reduceCtorEq,TF26,TF28,Int.lt_irrefl];refine hK _ _ ?_;clear hK K)
  refine AWp.stopK rfl ?_
  simp only [thenA,blockA,if_true]
  refine hK1 _ _ ?_
  clear hK1 K1 hK2 K2
  rw [stepE_eq,stepL_none hI]
  generalize redexE p e=r at *
  obtain⟨k',o⟩:=r
  (refine AWp.seqR [0,1,2,3,4,5,6,7,8,9,14,22,34,38] [] (by decide +kernel) fun K hK=>?_;simp -implicitDefEqProofs only [EV,Nat.reduceAdd,Nat.reduceEqDiff,reduceCtorEq,TF28,TF30];refine⟨_,.inl ⟨_,rfl,hre,rfl⟩,?_⟩;(try simp -implicitDefEqProofs only [EV,Nat.reduceAdd,Nat.reduceEqDiff,reduceCtorEq,TF28]);refine hK _ _ ?_;clear hK K)
  exact AWp.ret ⟨_,by rw [Tryz.results15];rfl,rfl⟩
 ·intro j _ d hd hmem hdrop htake hlt hI
  have hv:=ok_RefValue d (he.kids.2 d hmem)
  have hjl:=(List.getElem?_eq_some_iff.1 hd).1
  refine AWp.seqK fun K2 hK2=>?_
  (refine AWp.seqR [0,1,2,3,4,5,6,7,8,9,14,22,34,38] [] (by decide +kernel) fun K hK=>?_;simp -implicitDefEqProofs only [EV,Nat.reduceEqDiff,reduceCtorEq,TF26,TF28,hlt];refine hK _ _ ?_;clear hK K)
  refine AWp.goOnK rfl hK2 ?_
  clear hK2 K2
  refine AWp.seqK fun K2 hK2=>?_
  refine AWp.block ?_
  cases hval:isVal d with
  | true =>
   rw [hval] at hv
   refine AWp.seqK fun K3 hK3=>?_
   (refine AWp.seqR [0,1,2,3,4,5,6,7,8,9,14,22,34,38] [] (by decide +kernel) fun K hK=>?_;simp -implicitDefEqProofs only [EV,Nat.reduceEqDiff,reduceCtorEq,TF26,TF28];refine⟨by omega,_,exR_get hd,rfl,?_⟩;(try simp -implicitDefEqProofs only [EV,Nat.reduceAdd,Nat.reduceEqDiff,reduceCtorEq,]);refine⟨_,.inl ⟨_,rfl,hv,rfl⟩,?_⟩;(try simp -implicitDefEqProofs only [EV,]);refine hK _ _ ?_;clear hK K)
   refine AWp.condT rfl (AWp.exit ?_)
   simp only [thenA,blockA,if_true]
   refine hK2 _ _ ?_
   clear hK3 K3 hK2 K2
   (refine AWp.lastR [0,1,2,3,4,5,6,7,8,9,14,22,34,38] [] (by decide +kernel) fun K hK=>?_;simp -implicitDefEqProofs only [EV,Nat.reduceEqDiff,reduceCtorEq,];refine⟨by first | (unfold InR;omega) | (simp only [InR,sm] at *;omega),?_⟩;(try simp -implicitDefEqProofs only [EV,forall_const,implies_true,Nat.reduceAdd,Nat.reduceEqDiff,Nat.reduceBEq,Nat.reduceLeDiff,Nat.reduceSub,Nat.reduceMul,Int.reduceEq,Int.reduceLT,Int.reduceLE,Int.reduceSub,Int.reduceAdd,Int.reduceToNat,reduceCtorEq,Int.reduceNeg,TF3,TF4,TF9,TF26,TF28,TF30]);refine hK _ _ ?_;clear hK K;try simp only [thenA,])
   refine⟨(),?_,(by simp [sle,vle,sget]),by simp [ble,bget,exS,prC]⟩
   rw [htake]
   intro x hx
   rcases List.mem_append.1 hx with hx | hx
   ·exact hI x hx
   ·rw [List.mem_singleton.1 hx];exact hval
  | false =>
   rw [hval] at hv
   have hid:=ih d hmem (he.kids.2 d hmem)
   rw [stepE_eq,stepL_at hI hd hval]
   simp only
   generalize stepE p d=r at *
   obtain⟨k',o⟩:=r
   refine AWp.seqK fun K3 hK3=>?_
   (refine AWp.seqR [0,1,2,3,4,5,6,7,8,9,14,22,34,38] [] (by decide +kernel) fun K hK=>?_;simp -implicitDefEqProofs only [EV,Nat.reduceEqDiff,reduceCtorEq,TF26,TF28];refine⟨by omega,_,exR_get hd,rfl,?_⟩;(try simp -implicitDefEqProofs only [EV,Nat.reduceAdd,Nat.reduceEqDiff,reduceCtorEq,]);refine⟨_,.inl ⟨_,rfl,hv,rfl⟩,?_⟩;(try simp -implicitDefEqProofs only [EV,]);refine hK _ _ ?_;clear hK K)
   refine AWp.skipIfK rfl hK3 ?_
   clear hK3 K3
   (refine AWp.seqDC [0,1,2,3,4,5,6,7,8,9,14,22,34,38] [7] 13 7 7 10 [10,11] [11] (.box 7 0) rfl mixed (by decide +kernel) (by decide +kernel) (by decide +kernel) (by decide) ⟨10,by decide,by decide,by decide,rfl⟩ (by simp) rfl fun K hK=>?_;simp -implicitDefEqProofs only [EV,Nat.reduceAdd,Nat.reduceEqDiff,reduceCtorEq,TF26,TF28,TF30];refine⟨by omega,_,exR_get hd,rfl,?_⟩;(try simp -implicitDefEqProofs only [EV,Nat.reduceAdd,Nat.reduceEqDiff,reduceCtorEq,]);refine⟨_,.inl ⟨_,rfl,hid,rfl⟩,?_⟩;(try simp -implicitDefEqProofs only [EV,Nat.reduceEqDiff,reduceCtorEq,]);refine chV_step0 (dst:=some 7) (e:=11) (i1:=11) (f:=(.box 7 0)) (ps:=[7]) rfl rfl rfl rfl rfl rfl ?_;(try simp -implicitDefEqProofs only [EV,Nat.reduceEqDiff,Nat.reduceLeDiff,TF28]);refine chK_ok rfl (by simp) ?_;(try simp -implicitDefEqProofs only [EV,]);refine chV_step1 (dst:=none) (e:=13) (i1:=12) (f:=.tuple []) (ps:=[]) rfl rfl rfl rfl rfl rfl ?_;(try simp -implicitDefEqProofs only [EV,Nat.reduceAdd,Nat.reduceEqDiff,reduceCtorEq,TF28]);refine chK_ok rfl (by simp) ?_;(try simp -implicitDefEqProofs only [EV,Nat.reduceEqDiff,reduceCtorEq,]);refine chV_end rfl ?_;(try simp -implicitDefEqProofs only [EV,Nat.reduceEqDiff,Nat.reduceBEq,reduceCtorEq,]);refine hK _ _ ?_;clear hK K)
   by_cases ho:o=1
   ·rw [if_pos ho]
    refine AWp.seqK fun K3 hK3=>?_
    (refine AWp.seqR [0,1,2,3,4,5,6,7,8,9,14,22,34,38] [] (by decide +kernel) fun K hK=>?_;simp -implicitDefEqProofs only [EV,Nat.reduceEqDiff,reduceCtorEq,ho];refine hK _ _ ?_;clear hK K)
    refine AWp.skipIfK rfl hK3 ?_
    clear hK3 K3
    (refine AWp.seqR [0,1,2,3,4,5,6,7,8,9,14,22,34,38] [] (by decide +kernel) fun K hK=>?_;simp -implicitDefEqProofs only [EV,Nat.reduceAdd,Nat.reduceEqDiff,Nat.reduceBEq,Nat.reduceLeDiff,reduceCtorEq,TF28];refine hK _ _ ?_;clear hK K)
    (refine AWp.seqDC [0,1,2,3,4,5,6,7,8,9,14,22,34,38] [38] 16 38 52 0 [0,5,8,14] [] (.acc 38) rfl mixed (by decide +kernel) (by decide +kernel) (by decide +kernel) (by decide) ⟨14,by decide,by decide,by decide,rfl⟩ (by simp) rfl fun K hK=>?_;simp -implicitDefEqProofs only [EV,];refine chV_step0 (dst:=some 38) (e:=5) (i1:=1) (f:=(.acc 38)) (ps:=[38]) rfl rfl rfl rfl rfl rfl ?_;(try simp -implicitDefEqProofs only [EV,Nat.reduceAdd,Nat.reduceEqDiff,Nat.reduceBEq,Nat.reduceLeDiff,Nat.reduceMul,TF26,TF28]);refine chK_ok rfl (by simp) ?_;(try simp -implicitDefEqProofs only [EV,Nat.reduceEqDiff,Int.reduceLE,Int.reduceToNat,reduceCtorEq,TF26,TF28]);refine⟨exR_row _,by omega,by omega,?_⟩;(try simp -implicitDefEqProofs only [EV,forall_const,implies_true,Nat.reduceAdd,Nat.reduceEqDiff,Nat.reduceBEq,Nat.reduceLeDiff,Nat.reduceSub,Nat.reduceMul,Int.reduceEq,Int.reduceLT,Int.reduceLE,Int.reduceSub,Int.reduceAdd,Int.reduceToNat,reduceCtorEq,Int.reduceNeg,TF3,TF4,TF9,TF26,TF28,TF30]);refine chV_step1 (dst:=some 43) (e:=8) (i1:=6) (f:=(.acc 38)) (ps:=[38]) rfl rfl rfl rfl rfl rfl ?_;(try simp -implicitDefEqProofs only [EV,Nat.reduceAdd,Nat.reduceEqDiff,Nat.reduceBEq,Nat.reduceLeDiff,reduceCtorEq,TF26,TF28]);refine⟨fun row h=>exR_row _ row (List.mem_of_mem_take h),by simp only [List.length_take,exR_len];unfold lim;have:=hkl;unfold sm at this;omega,?_⟩;(try simp -implicitDefEqProofs only [EV,forall_const,implies_true,Nat.reduceAdd,Nat.reduceEqDiff,Nat.reduceBEq,Nat.reduceLeDiff,Nat.reduceSub,Nat.reduceMul,Int.reduceEq,Int.reduceLT,Int.reduceLE,Int.reduceSub,Int.reduceAdd,Int.reduceToNat,reduceCtorEq,Int.reduceNeg,TF3,TF4,TF9,TF26,TF28,TF30]);refine chK_ok rfl (by simp) ?_;(try simp -implicitDefEqProofs only [EV,Nat.reduceAdd,Nat.reduceEqDiff,Nat.reduceLeDiff,Nat.reduceMul,reduceCtorEq,TF26,TF28]);refine chV_step1 (dst:=some 46) (e:=14) (i1:=9) (f:=(.acc 38)) (ps:=[38]) rfl rfl rfl rfl rfl rfl ?_;(try simp -implicitDefEqProofs only [EV,Nat.reduceAdd,Nat.reduceEqDiff,Nat.reduceBEq,Nat.reduceLeDiff,reduceCtorEq,TF26,TF28]);refine⟨by simp,by simp only [List.length_take,exR_len];unfold lim;have:=hkl;unfold sm at this;omega,?_⟩;(try simp -implicitDefEqProofs only [EV,forall_const,implies_true,Nat.reduceAdd,Nat.reduceEqDiff,Nat.reduceBEq,Nat.reduceLeDiff,Nat.reduceSub,Nat.reduceMul,Int.reduceEq,Int.reduceLT,Int.reduceLE,Int.reduceSub,Int.reduceAdd,Int.reduceToNat,reduceCtorEq,Int.reduceNeg,TF3,TF4,TF9,TF26,TF28,TF30]);refine chK_ok rfl (by simp) ?_;(try simp -implicitDefEqProofs only [EV,Nat.reduceEqDiff,reduceCtorEq,TF26,TF28]);refine⟨by first | (unfold InR;omega) | (simp only [InR,sm] at *;omega),?_⟩;(try simp -implicitDefEqProofs only [EV,forall_const,implies_true,Nat.reduceAdd,Nat.reduceEqDiff,Nat.reduceBEq,Nat.reduceLeDiff,Nat.reduceSub,Nat.reduceMul,Int.reduceEq,Int.reduceLT,Int.reduceLE,Int.reduceSub,Int.reduceAdd,Int.reduceToNat,reduceCtorEq,Int.reduceNeg,TF3,TF4,TF9,TF26,TF28,TF30]);refine⟨exR_row _,by omega,by omega,by omega,?_⟩;(try simp -implicitDefEqProofs only [EV,forall_const,implies_true,Nat.reduceAdd,Nat.reduceEqDiff,Nat.reduceBEq,Nat.reduceLeDiff,Nat.reduceSub,Nat.reduceMul,Int.reduceEq,Int.reduceLT,Int.reduceLE,Int.reduceSub,Int.reduceAdd,Int.reduceToNat,reduceCtorEq,Int.reduceNeg,TF3,TF4,TF9,TF26,TF28,TF30]);refine chV_step1 (dst:=some 52) (e:=16) (i1:=15) (f:=(.acc 38)) (ps:=[38]) rfl rfl rfl rfl rfl rfl ?_;(try simp -implicitDefEqProofs only [EV,Nat.reduceAdd,Nat.reduceEqDiff,Nat.reduceBEq,Nat.reduceLeDiff,reduceCtorEq,TF26,TF28]);refine⟨fun row h=>exR_row _ row (List.mem_of_mem_take (List.mem_of_mem_drop h)),by simp only [List.length_append,List.length_take,List.length_drop,List.length_cons,List.length_nil,exR_len];unfold lim;have:=hkl;unfold sm at this;omega,?_⟩;(try simp -implicitDefEqProofs only [EV,forall_const,implies_true,Nat.reduceAdd,Nat.reduceEqDiff,Nat.reduceBEq,Nat.reduceLeDiff,Nat.reduceSub,Nat.reduceMul,Int.reduceEq,Int.reduceLT,Int.reduceLE,Int.reduceSub,Int.reduceAdd,Int.reduceToNat,reduceCtorEq,Int.reduceNeg,TF3,TF4,TF9,TF26,TF28,TF30]);refine chK_ok rfl (by simp) ?_;(try simp -implicitDefEqProofs only [EV,Nat.reduceEqDiff,reduceCtorEq,TF28]);refine chV_end rfl ?_;(try simp -implicitDefEqProofs only [EV,Nat.reduceAdd,Nat.reduceEqDiff,Nat.reduceBEq,Nat.reduceLeDiff,reduceCtorEq,TF26,]);refine hK _ _ ?_;clear hK K)
    have hrows:(exR e.kids).take j++[exC k']++((exR e.kids).take e.kids.length).drop (((j:Int)+1).toNat)=exR (e.kids.set j k'):=by
     rw [show ((j:Int)+1).toNat=j+1 by omega,← exR_len e.kids,List.take_length,← exR_set,List.set_eq_take_append_cons_drop,if_pos (by rw [exR_len];exact hjl),List.append_assoc]
     rfl
    refine AWp.weaken (sl':=[(4,.box 4 0),(9,.box 9 0)]) (bx':=[(4,.cells [.d (.int .i64 0),.d (.str []),.d (.str []),.d .nil,.d (.int .i64 0),.d .nil,.d .nil,.d (.int .i64 0)]),(9,.cells [.d (.int .i64 e.kind),.d (.str e.name),.d (.str e.type.name),.d (.slice (tyR e.type.args)),.d (.int .i64 e.type.pos),.d (.slice (tyR e.targs)),.acc 38,.d (.int .i64 e.pos)]),(38,.rows 8 (exR (e.kids.set j k')))])
     ⟨.inr (.inl rfl),.inr (.inl rfl),trivial⟩ ⟨rfl,rfl,by rw [← hrows];rfl,trivial⟩ ?_
    (refine AWp.seqR [0,1,2,3,4,5,6,7,8,9,14,22,34,38] [] (by decide +kernel) fun K hK=>?_;simp -implicitDefEqProofs only [EV,Nat.reduceAdd,Nat.reduceEqDiff,reduceCtorEq,TF28];refine hK _ _ ?_;clear hK K)
    exact AWp.ret ⟨_,by rw [Tryz.results15];rfl,rfl⟩
   ·rw [if_neg ho]
    refine AWp.seqK fun K3 hK3=>?_
    (refine AWp.seqR [0,1,2,3,4,5,6,7,8,9,14,22,34,38] [] (by decide +kernel) fun K hK=>?_;simp -implicitDefEqProofs only [EV,Nat.reduceEqDiff,reduceCtorEq,ho];refine hK _ _ ?_;clear hK K)
    refine AWp.takeIfK rfl ?_
    (refine AWp.seqR [0,1,2,3,4,5,6,7,8,9,14,22,34,38] [] (by decide +kernel) fun K hK=>?_;simp -implicitDefEqProofs only [EV,Nat.reduceAdd,Nat.reduceEqDiff,reduceCtorEq,TF28];refine hK _ _ ?_;clear hK K)
    exact AWp.ret ⟨_,by rw [Tryz.results15];rfl,rfl⟩
end Go.Abs
/- castingsref25.redex: what an expression becomes all of whose kids are values -/
namespace Go.Abs
set_option linter.unusedSimpArgs false
set_option linter.unusedVariables false
open Go Go.Proofs
set_option maxRecDepth 100000
set_option maxHeartbeats 1000000
theorem idx_find {α:Type} (q:α→Bool):∀ l:List α,(idxF q l = -1∧l.find? q=none)∨∃ (j:Nat)(x:α),idxF q l=j∧l[j]? = some x∧l.find? q=some x
 | []=>.inl ⟨rfl,rfl⟩
 | x::l=>by
  rw [idxF_cons,List.find?_cons]
  cases hx:q x with
  | true=>exact .inr ⟨0,x,by simp,rfl,rfl⟩
  | false =>
   simp only [Bool.false_eq_true,if_false]
   rcases idx_find q l with ⟨h1,h2⟩ | ⟨j,y,h1,h2,h3⟩
   ·exact .inl ⟨by rw [h1];rfl,h2⟩
   ·exact .inr ⟨j+1,y,by rw [h1,if_neg (by omega)];omega,by simpa using h2,h3⟩
theorem methP_methD (p:Prog)(x:Ty)(m:Str):(methP p x m < 0∧methD p x m=none)∨∃ (j:Nat)(d:Decl),methP p x m=j∧p.decls[j]? = some d∧methD p x m=some d:=by
 unfold methP methD methI
 by_cases hi:instB p x 1=true
 ·rw [if_pos hi,if_pos hi]
  rcases idx_find (keyM x.name m) p.decls with ⟨h1,h2⟩ | ⟨j,d,h1,h2,h3⟩
  ·rw [h1,h2]
   left
   refine⟨?_,rfl⟩
   split
   ·rw [if_neg (by omega)];omega
   ·omega
  ·rw [h1,Int.toNat_natCast,h2,h3]
   simp only
   by_cases hv:d.vars.length=x.args.length
   ·right
    exact⟨j,d,by rw [if_pos ⟨by omega,hv⟩],h2,by rw [if_pos hv]⟩
   ·left
    exact⟨by rw [if_neg (fun h=>hv h.2)];omega,by rw [if_neg hv]⟩
 ·rw [if_neg hi,if_neg hi]
  exact .inl ⟨by omega,rfl⟩
abbrev exK (k:Int)(e:Ex):List SV:=[.d (.int .i64 k),.d (.str e.name),.d (.str e.type.name),.d (.slice (tyR e.type.args)),.d (.int .i64 e.type.pos),.d (.slice (tyR e.targs)),.d (.slice (exR e.kids)),.d (.int .i64 e.pos)]
theorem ok_rdxSel (p:Prog)(h:p.Sm)(e v:Ex)(he:e.Sm)(h0:e.kids[0]? = some v)(hk:e.kind=4):CallOK Tryz.prog 52 [prV p,exV e] (resV (selE p e v)):=by
 have hv:=he.kids.2 v (List.mem_of_getElem? h0)
 have hin:=ok_RefInstance p v.type 1
 have hx:exV e=.agg [.d (.int .i64 4),.d (.str e.name),.d (.str e.type.name),.d (.slice (tyR e.type.args)),.d (.int .i64 e.type.pos),.d (.slice (tyR e.targs)),.d (.slice (exR e.kids)),.d (.int .i64 e.pos)]:=by rw [← hk]
 have hlen:¬ (e.kids.length:Int)=0:=by have:=(List.getElem?_eq_some_iff.1 h0).1;omega
 unfold selE
 cases hi:instB p v.type 1 with
 | false =>
  rw [hi] at hin
  rw [if_neg (fun hh=>by cases hh.1)]
  rw [show resV (e,4)=.tuple [exV e,intV 4] from rfl,hx]
  (refine CallOK.of_body Tryz.func52 rfl (by decide) (by rw [Tryz.ntmps52];simp) ?_;rw [Tryz.ntmps52])
  (refine AWp.seqR [0,1,2,3,4,5,6,7,8,9,10,11,12,13,14,17,32,46,54,64,69,78,84,89,98,123,125,134,144,150] [] (by decide +kernel) fun K hK=>?_;simp -implicitDefEqProofs only [EV,Nat.reduceAdd,Nat.reduceEqDiff,Nat.reduceBEq,Nat.reduceLeDiff,reduceCtorEq,TF28,];refine hK _ _ ?_;clear hK K)
  refine AWp.seqK fun K1 hK1=>?_
  (refine AWp.seqR [0,1,2,3,4,5,6,7,8,9,10,11,12,13,14,17,32,46,54,64,69,78,84,89,98,123,125,134,144,150] [] (by decide +kernel) fun K hK=>?_;simp -implicitDefEqProofs only [EV,Nat.reduceEqDiff,Int.reduceEq,reduceCtorEq,TF3,TF28,];refine hK _ _ ?_;clear hK K)
  refine AWp.skipIfK rfl hK1 ?_
  clear hK1 K1
  refine AWp.seqK fun K1 hK1=>?_
  (refine AWp.seqR [0,1,2,3,4,5,6,7,8,9,10,11,12,13,14,17,32,46,54,64,69,78,84,89,98,123,125,134,144,150] [] (by decide +kernel) fun K hK=>?_;simp -implicitDefEqProofs only [EV,Nat.reduceEqDiff,Int.reduceLT,reduceCtorEq,TF3,TF26,TF28,hlen];refine hK _ _ ?_;clear hK K)
  refine AWp.skipIfK rfl hK1 ?_
  clear hK1 K1
  (refine AWp.seqR [0,1,2,3,4,5,6,7,8,9,10,11,12,13,14,17,32,46,54,64,69,78,84,89,98,123,125,134,144,150] [] (by decide +kernel) fun K hK=>?_;simp -implicitDefEqProofs only [EV,Nat.reduceEqDiff,Int.reduceLE,Int.reduceToNat,reduceCtorEq,TF26,TF28,];refine⟨_,exR_get h0,rfl,?_⟩;(try simp -implicitDefEqProofs only [EV,Nat.reduceAdd,Nat.reduceEqDiff,Nat.reduceBEq,Nat.reduceLeDiff,reduceCtorEq,TF28,]);refine hK _ _ ?_;clear hK K)
  refine AWp.seqK fun K1 hK1=>?_
  (refine AWp.seqR [0,1,2,3,4,5,6,7,8,9,10,11,12,13,14,17,32,46,54,64,69,78,84,89,98,123,125,134,144,150] [] (by decide +kernel) fun K hK=>?_;simp -implicitDefEqProofs only [EV,Nat.reduceAdd,Nat.reduceEqDiff,Nat.reduceLeDiff,reduceCtorEq,TF3,TF25,TF28,TF30,];refine⟨_,.inl ⟨_,rfl,hin,rfl⟩,?_⟩;(try simp -implicitDefEqProofs only [EV,]);refine hK _ _ ?_;clear hK K)
  refine AWp.condF rfl (AWp.skip (hK1 _ _ ?_))
  clear hK1 K1
  refine AWp.seqK fun K1 hK1=>?_
  (refine AWp.seqR [0,1,2,3,4,5,6,7,8,9,10,11,12,13,14,17,32,46,54,64,69,78,84,89,98,123,125,134,144,150] [] (by decide +kernel) fun K hK=>?_;simp -implicitDefEqProofs only [EV,Nat.reduceEqDiff,Int.reduceEq,reduceCtorEq,TF3,TF28,];refine hK _ _ ?_;clear hK K)
  refine AWp.skipIfK rfl hK1 ?_
  clear hK1 K1
  refine AWp.seqK fun K1 hK1=>?_
  (refine AWp.seqR [0,1,2,3,4,5,6,7,8,9,10,11,12,13,14,17,32,46,54,64,69,78,84,89,98,123,125,134,144,150] [] (by decide +kernel) fun K hK=>?_;simp -implicitDefEqProofs only [EV,Nat.reduceEqDiff,reduceCtorEq,TF3,TF28,];refine hK _ _ ?_;clear hK K)
  refine AWp.takeIfK rfl ?_
  (refine AWp.seqR [0,1,2,3,4,5,6,7,8,9,10,11,12,13,14,17,32,46,54,64,69,78,84,89,98,123,125,134,144,150] [] (by decide +kernel) fun K hK=>?_;simp -implicitDefEqProofs only [EV,Nat.reduceAdd,Nat.reduceEqDiff,reduceCtorEq,TF28,];refine hK _ _ ?_;clear hK K)
  exact AWp.ret ⟨_,by rw [Tryz.results52];rfl,rfl⟩
 | true =>
  rw [hi] at hin
  have hf:=ok_RFields p h v.type hv.type hi
  have hfl:=fieldsT_len h v.type
  generalize fieldsT p v.type=fs at *
  generalize hz:idxF (fun f:Param=>decide (f.name=e.name)) fs=z
  have hxr:resV (if true=true∧0≤z∧z < v.kids.length then ((v.kids[z.toNat]?).getD v,1) else (e,4))=resV (if 0≤z∧z < v.kids.length then ((v.kids[z.toNat]?).getD v,1) else (e,4)):=by simp
  rw [hxr]
  clear hxr
  (refine CallOK.of_body Tryz.func52 rfl (by decide) (by rw [Tryz.ntmps52];simp) ?_;rw [Tryz.ntmps52])
  rw [hx]
  (refine AWp.seqR [0,1,2,3,4,5,6,7,8,9,10,11,12,13,14,17,32,46,54,64,69,78,84,89,98,123,125,134,144,150] [] (by decide +kernel) fun K hK=>?_;simp -implicitDefEqProofs only [EV,Nat.reduceAdd,Nat.reduceEqDiff,Nat.reduceBEq,Nat.reduceLeDiff,reduceCtorEq,TF28,];refine hK _ _ ?_;clear hK K)
  refine AWp.seqK fun K1 hK1=>?_
  (refine AWp.seqR [0,1,2,3,4,5,6,7,8,9,10,11,12,13,14,17,32,46,54,64,69,78,84,89,98,123,125,134,144,150] [] (by decide +kernel) fun K hK=>?_;simp -implicitDefEqProofs only [EV,Nat.reduceEqDiff,Int.reduceEq,reduceCtorEq,TF3,TF28,];refine hK _ _ ?_;clear hK K)
  refine AWp.skipIfK rfl hK1 ?_
  clear hK1 K1
  refine AWp.seqK fun K1 hK1=>?_
  (refine AWp.seqR [0,1,2,3,4,5,6,7,8,9,10,11,12,13,14,17,32,46,54,64,69,78,84,89,98,123,125,134,144,150] [] (by decide +kernel) fun K hK=>?_;simp -implicitDefEqProofs only [EV,Nat.reduceEqDiff,Int.reduceLT,reduceCtorEq,TF3,TF26,TF28,hlen];refine hK _ _ ?_;clear hK K)
  refine AWp.skipIfK rfl hK1 ?_
  clear hK1 K1
  (refine AWp.seqR [0,1,2,3,4,5,6,7,8,9,10,11,12,13,14,17,32,46,54,64,69,78,84,89,98,123,125,134,144,150] [] (by decide +kernel) fun K hK=>?_;simp -implicitDefEqProofs only [EV,Nat.reduceEqDiff,Int.reduceLE,Int.reduceToNat,reduceCtorEq,TF26,TF28,];refine⟨_,exR_get h0,rfl,?_⟩;(try simp -implicitDefEqProofs only [EV,Nat.reduceAdd,Nat.reduceEqDiff,Nat.reduceBEq,Nat.reduceLeDiff,reduceCtorEq,TF28,]);refine hK _ _ ?_;clear hK K)
  refine AWp.seqK fun K1 hK1=>?_
  (refine AWp.seqR [0,1,2,3,4,5,6,7,8,9,10,11,12,13,14,17,32,46,54,64,69,78,84,89,98,123,125,134,144,150] [] (by decide +kernel) fun K hK=>?_;simp -implicitDefEqProofs only [EV,Nat.reduceAdd,Nat.reduceEqDiff,Nat.reduceLeDiff,reduceCtorEq,TF3,TF25,TF28,TF30,];refine⟨_,.inl ⟨_,rfl,hin,rfl⟩,?_⟩;(try simp -implicitDefEqProofs only [EV,]);refine hK _ _ ?_;clear hK K)
  refine AWp.condT rfl ?_
  (refine AWp.seqR [0,1,2,3,4,5,6,7,8,9,10,11,12,13,14,17,32,46,54,64,69,78,84,89,98,123,125,134,144,150] [] (by decide +kernel) fun K hK=>?_;simp -implicitDefEqProofs only [EV,Nat.reduceAdd,Nat.reduceEqDiff,Nat.reduceLeDiff,reduceCtorEq,TF25,TF28,TF30,];refine⟨_,.inl ⟨_,rfl,hf,rfl⟩,?_⟩;(try simp -implicitDefEqProofs only [EV,forall_const,implies_true,Nat.reduceAdd,Nat.reduceEqDiff,Nat.reduceBEq,Nat.reduceLeDiff,Nat.reduceSub,Nat.reduceMul,Int.reduceEq,Int.reduceLT,Int.reduceLE,Int.reduceSub,Int.reduceAdd,Int.reduceToNat,reduceCtorEq,Int.reduceNeg,TF3,TF4,TF9,TF22,TF23,TF25,TF26,TF28,TF30,TF46,TF47,TF76,TF78,TF80,TF84,TF91]);refine hK _ _ ?_;clear hK K)
  (refine AWp.seqR [0,1,2,3,4,5,6,7,8,9,10,11,12,13,14,17,32,46,54,64,69,78,84,89,98,123,125,134,144,150] [] (by decide +kernel) fun K hK=>?_;simp -implicitDefEqProofs only [EV,Nat.reduceEqDiff,reduceCtorEq,];refine hK _ _ ?_;clear hK K)
  refine AWp.block (AWp.forIdx fs (X:=Unit) (fun j _=>[(3,.box 3 0),(4,.box 4 0),(6,.box 6 0),(7,.d (.slice (paR fs))),(8,intV j)])
   (fun j _=>[(3,.cells (exK 4 e)),(4,.cells [.d (.int .i64 0),.d (.str []),.d (.str []),.d .nil,.d (.int .i64 0),.d .nil,.d .nil,.d (.int .i64 0)]),(6,.cells (exS v))])
   (fun j _=>∀ y,y∈fs.take j→decide (y.name=e.name)=false) () (by simp) (by simp [sle,vle,sget]) (by simp [ble,bget,exS,exK]) ?_ ?_)
  ·intro _ hI
   rw [List.take_length] at hI
   rw [idxF_none hI] at hz
   refine AWp.seqK fun K2 hK2=>?_
   (refine AWp.seqR [0,1,2,3,4,5,6,7,8,9,10,11,12,13,14,17,32,46,54,64,69,78,84,89,98,123,125,134,144,150] [] (by decide +kernel) fun K hK=>?_;simp -implicitDefEqProofs only [EV,Nat.reduceEqDiff,reduceCtorEq,TF47,Int.lt_irrefl];refine hK _ _ ?_;clear hK K)
   refine AWp.stopK rfl ?_
   simp only [thenA,blockA,if_true]
   refine hK1 _ _ ?_
   clear hK1 K1 hK2 K2
   rw [if_neg (fun hh=>by omega)]
   rw [show resV (e,4)=.tuple [exV e,intV 4] from rfl,hx]
   refine AWp.weaken (sl':=[(3,.box 3 0),(4,.box 4 0)]) (bx':=[(3,.cells [.d (.int .i64 4),.d (.str e.name),.d (.str e.type.name),.d (.slice (tyR e.type.args)),.d (.int .i64 e.type.pos),.d (.slice (tyR e.targs)),.d (.slice (exR e.kids)),.d (.int .i64 e.pos)]),(4,.cells [.d (.int .i64 0),.d (.str []),.d (.str []),.d .nil,.d (.int .i64 0),.d .nil,.d .nil,.d (.int .i64 0)])]) ⟨.inr (.inl rfl),.inr (.inl rfl),trivial⟩ ⟨rfl,rfl,trivial⟩ ?_
   refine AWp.seqK fun K1 hK1=>?_
   (refine AWp.seqR [0,1,2,3,4,5,6,7,8,9,10,11,12,13,14,17,32,46,54,64,69,78,84,89,98,123,125,134,144,150] [] (by decide +kernel) fun K hK=>?_;simp -implicitDefEqProofs only [EV,Nat.reduceEqDiff,Int.reduceEq,reduceCtorEq,TF3,TF28,];refine hK _ _ ?_;clear hK K)
   refine AWp.skipIfK rfl hK1 ?_
   clear hK1 K1
   refine AWp.seqK fun K1 hK1=>?_
   (refine AWp.seqR [0,1,2,3,4,5,6,7,8,9,10,11,12,13,14,17,32,46,54,64,69,78,84,89,98,123,125,134,144,150] [] (by decide +kernel) fun K hK=>?_;simp -implicitDefEqProofs only [EV,Nat.reduceEqDiff,reduceCtorEq,TF3,TF28,];refine hK _ _ ?_;clear hK K)
   refine AWp.takeIfK rfl ?_
   (refine AWp.seqR [0,1,2,3,4,5,6,7,8,9,10,11,12,13,14,17,32,46,54,64,69,78,84,89,98,123,125,134,144,150] [] (by decide +kernel) fun K hK=>?_;simp -implicitDefEqProofs only [EV,Nat.reduceAdd,Nat.reduceEqDiff,reduceCtorEq,TF28,];refine hK _ _ ?_;clear hK K)
   exact AWp.ret ⟨_,by rw [Tryz.results52];rfl,rfl⟩
  ·intro j _ f hd hmem hdrop htake hlt hI
   refine AWp.seqK fun K2 hK2=>?_
   (refine AWp.seqR [0,1,2,3,4,5,6,7,8,9,10,11,12,13,14,17,32,46,54,64,69,78,84,89,98,123,125,134,144,150] [] (by decide +kernel) fun K hK=>?_;simp -implicitDefEqProofs only [EV,Nat.reduceEqDiff,reduceCtorEq,TF47,hlt];refine hK _ _ ?_;clear hK K)
   refine AWp.goOnK rfl hK2 ?_
   clear hK2 K2
   refine AWp.seqK fun K2 hK2=>?_
   refine AWp.block ?_
   by_cases hn:f.name=e.name
   ·rw [idxF_some hd (by simp [hn]) hI] at hz
    by_cases hj:(j:Int) < v.kids.length
    ·have hx2:v.kids[j]? = some v.kids[j]:=List.getElem?_eq_getElem (by omega)
     rw [← hz,if_pos ⟨by omega,hj⟩,Int.toNat_natCast,hx2,Option.getD_some]
     generalize v.kids[j]=u at *
     (refine AWp.seqD [0,1,2,3,4,5,6,7,8,9,10,11,12,13,14,17,32,46,54,64,69,78,84,89,98,123,125,134,144,150] [] 8 mixed (by decide +kernel) (by decide +kernel) fun K hK=>?_;simp -implicitDefEqProofs only [EV,Nat.reduceEqDiff,reduceCtorEq,TF9,TF47,TF91];refine⟨by omega,_,paR_get hd,rfl,?_⟩;(try simp -implicitDefEqProofs only [EV,Nat.reduceEqDiff,reduceCtorEq,TF9,TF28,hn]);refine hK _ _ ?_;clear hK K)
     refine AWp.condT rfl ?_
     refine AWp.seqK fun K3 hK3=>?_
     (refine AWp.seqR [0,1,2,3,4,5,6,7,8,9,10,11,12,13,14,17,32,46,54,64,69,78,84,89,98,123,125,134,144,150] [] (by decide +kernel) fun K hK=>?_;simp -implicitDefEqProofs only [EV,Nat.reduceEqDiff,reduceCtorEq,TF26,TF28,hj];refine hK _ _ ?_;clear hK K)
     refine AWp.takeIfK rfl ?_
     (refine AWp.seqR [0,1,2,3,4,5,6,7,8,9,10,11,12,13,14,17,32,46,54,64,69,78,84,89,98,123,125,134,144,150] [] (by decide +kernel) fun K hK=>?_;simp -implicitDefEqProofs only [EV,Nat.reduceEqDiff,reduceCtorEq,TF26,TF28,];refine⟨by omega,_,exR_get hx2,rfl,?_⟩;(try simp -implicitDefEqProofs only [EV,Nat.reduceAdd,Nat.reduceEqDiff,reduceCtorEq,TF28,]);refine hK _ _ ?_;clear hK K)
     exact AWp.ret ⟨_,by rw [Tryz.results52];rfl,rfl⟩
    ·rw [← hz,if_neg (fun hh=>hj hh.2)]
     rw [show resV (e,4)=.tuple [exV e,intV 4] from rfl,hx]
     (refine AWp.seqD [0,1,2,3,4,5,6,7,8,9,10,11,12,13,14,17,32,46,54,64,69,78,84,89,98,123,125,134,144,150] [] 8 mixed (by decide +kernel) (by decide +kernel) fun K hK=>?_;simp -implicitDefEqProofs only [EV,Nat.reduceEqDiff,reduceCtorEq,TF9,TF47,TF91];refine⟨by omega,_,paR_get hd,rfl,?_⟩;(try simp -implicitDefEqProofs only [EV,Nat.reduceEqDiff,reduceCtorEq,TF9,TF28,hn]);refine hK _ _ ?_;clear hK K)
     refine AWp.condT rfl ?_
     refine AWp.seqK fun K3 hK3=>?_
     (refine AWp.seqR [0,1,2,3,4,5,6,7,8,9,10,11,12,13,14,17,32,46,54,64,69,78,84,89,98,123,125,134,144,150] [] (by decide +kernel) fun K hK=>?_;simp -implicitDefEqProofs only [EV,Nat.reduceEqDiff,reduceCtorEq,TF26,TF28,hj];refine hK _ _ ?_;clear hK K)
     refine AWp.skipIfK rfl hK3 ?_
     clear hK3 K3
     refine AWp.weaken (sl':=[(3,.box 3 0),(4,.box 4 0)]) (bx':=[(3,.cells [.d (.int .i64 4),.d (.str e.name),.d (.str e.type.name),.d (.slice (tyR e.type.args)),.d (.int .i64 e.type.pos),.d (.slice (tyR e.targs)),.d (.slice (exR e.kids)),.d (.int .i64 e.pos)]),(4,.cells [.d (.int .i64 0),.d (.str []),.d (.str []),.d .nil,.d (.int .i64 0),.d .nil,.d .nil,.d (.int .i64 0)])]) ⟨.inr (.inl rfl),.inr (.inl rfl),trivial⟩ ⟨rfl,rfl,trivial⟩ ?_
     (refine AWp.seqR [0,1,2,3,4,5,6,7,8,9,10,11,12,13,14,17,32,46,54,64,69,78,84,89,98,123,125,134,144,150] [] (by decide +kernel) fun K hK=>?_;simp -implicitDefEqProofs only [EV,Nat.reduceAdd,Nat.reduceEqDiff,reduceCtorEq,TF28,];refine hK _ _ ?_;clear hK K)
     exact AWp.ret ⟨_,by rw [Tryz.results52];rfl,rfl⟩
   ·(refine AWp.seqD [0,1,2,3,4,5,6,7,8,9,10,11,12,13,14,17,32,46,54,64,69,78,84,89,98,123,125,134,144,150] [] 8 mixed (by decide +kernel) (by decide +kernel) fun K hK=>?_;simp -implicitDefEqProofs only [EV,Nat.reduceEqDiff,reduceCtorEq,TF9,TF47,TF91];refine⟨by omega,_,paR_get hd,rfl,?_⟩;(try simp -implicitDefEqProofs only [EV,Nat.reduceEqDiff,reduceCtorEq,TF9,TF28,hn]);refine hK _ _ ?_;clear hK K)
    refine AWp.condF rfl (AWp.skip (hK2 _ _ ?_))
    clear hK2 K2
    (refine AWp.lastR [0,1,2,3,4,5,6,7,8,9,10,11,12,13,14,17,32,46,54,64,69,78,84,89,98,123,125,134,144,150] [] (by decide +kernel) fun K hK=>?_;simp -implicitDefEqProofs only [EV,Nat.reduceEqDiff,reduceCtorEq,];refine⟨by first | (unfold InR;omega) | (simp only [InR,sm] at *;omega),?_⟩;(try simp -implicitDefEqProofs only [EV,forall_const,implies_true,Nat.reduceAdd,Nat.reduceEqDiff,Nat.reduceBEq,Nat.reduceLeDiff,Nat.reduceSub,Nat.reduceMul,Int.reduceEq,Int.reduceLT,Int.reduceLE,Int.reduceSub,Int.reduceAdd,Int.reduceToNat,reduceCtorEq,Int.reduceNeg,TF3,TF4,TF9,TF22,TF23,TF25,TF26,TF28,TF30,TF46,TF47,TF76,TF78,TF80,TF84,TF91]);refine hK _ _ ?_;clear hK K;try simp only [thenA,])
    refine⟨(),?_,(by simp [sle,vle,sget]),by simp [ble,bget,exS,exK]⟩
    rw [htake]
    intro y hy
    rcases List.mem_append.1 hy with hy | hy
    ·exact hI y hy
    ·rw [List.mem_singleton.1 hy];simp [hn]
end Go.Abs
/- castingsref25.redex: assertions, calls; all of it -/
namespace Go.Abs
set_option linter.unusedSimpArgs false
set_option linter.unusedVariables false
open Go Go.Proofs
set_option maxRecDepth 100000
set_option maxHeartbeats 1000000
theorem ok_rdxAsrt (p:Prog)(h:p.Sm)(e v:Ex)(he:e.Sm)(h0:e.kids[0]? = some v)(hk:e.kind=5):CallOK Tryz.prog 52 [prV p,exV e] (resV (asrtE p e v)):=by
 have hv:=he.kids.2 v (List.mem_of_getElem? h0)
 have hi:=ok_RImplements p h [] (by simp) (by simp) v.type e.type hv.type he.type
 have hx:exV e=.agg [.d (.int .i64 5),.d (.str e.name),.d (.str e.type.name),.d (.slice (tyR e.type.args)),.d (.int .i64 e.type.pos),.d (.slice (tyR e.targs)),.d (.slice (exR e.kids)),.d (.int .i64 e.pos)]:=by rw [← hk]
 have hlen:¬ (e.kids.length:Int)=0:=by have:=(List.getElem?_eq_some_iff.1 h0).1;omega
 unfold asrtE
 generalize implB p [] v.type e.type=b at *
 cases b
 ·rw [if_neg (by decide)]
  rw [show resV (e,3)=.tuple [exV e,intV 3] from rfl,hx]
  (refine CallOK.of_body Tryz.func52 rfl (by decide) (by rw [Tryz.ntmps52];simp) ?_;rw [Tryz.ntmps52])
  (refine AWp.seqR [0,1,2,3,4,5,6,7,8,9,10,11,12,13,14,17,32,46,54,64,69,78,84,89,98,123,125,134,144,150] [] (by decide +kernel) fun K hK=>?_;simp -implicitDefEqProofs only [EV,Nat.reduceAdd,Nat.reduceEqDiff,Nat.reduceBEq,Nat.reduceLeDiff,reduceCtorEq,TF28,];refine hK _ _ ?_;clear hK K)
  refine AWp.seqK fun K1 hK1=>?_
  (refine AWp.seqR [0,1,2,3,4,5,6,7,8,9,10,11,12,13,14,17,32,46,54,64,69,78,84,89,98,123,125,134,144,150] [] (by decide +kernel) fun K hK=>?_;simp -implicitDefEqProofs only [EV,Nat.reduceEqDiff,Int.reduceEq,reduceCtorEq,TF3,TF28,];refine hK _ _ ?_;clear hK K)
  refine AWp.skipIfK rfl hK1 ?_
  clear hK1 K1
  refine AWp.seqK fun K1 hK1=>?_
  (refine AWp.seqR [0,1,2,3,4,5,6,7,8,9,10,11,12,13,14,17,32,46,54,64,69,78,84,89,98,123,125,134,144,150] [] (by decide +kernel) fun K hK=>?_;simp -implicitDefEqProofs only [EV,Nat.reduceEqDiff,Int.reduceLT,reduceCtorEq,TF3,TF26,TF28,hlen];refine hK _ _ ?_;clear hK K)
  refine AWp.skipIfK rfl hK1 ?_
  clear hK1 K1
  (refine AWp.seqR [0,1,2,3,4,5,6,7,8,9,10,11,12,13,14,17,32,46,54,64,69,78,84,89,98,123,125,134,144,150] [] (by decide +kernel) fun K hK=>?_;simp -implicitDefEqProofs only [EV,Nat.reduceEqDiff,Int.reduceLE,Int.reduceToNat,reduceCtorEq,TF26,TF28,];refine⟨_,exR_get h0,rfl,?_⟩;(try simp -implicitDefEqProofs only [EV,Nat.reduceAdd,Nat.reduceEqDiff,Nat.reduceBEq,Nat.reduceLeDiff,reduceCtorEq,TF28,]);refine hK _ _ ?_;clear hK K)
  refine AWp.seqK fun K1 hK1=>?_
  (refine AWp.seqR [0,1,2,3,4,5,6,7,8,9,10,11,12,13,14,17,32,46,54,64,69,78,84,89,98,123,125,134,144,150] [] (by decide +kernel) fun K hK=>?_;simp -implicitDefEqProofs only [EV,Nat.reduceEqDiff,Int.reduceEq,reduceCtorEq,TF3,TF28,];refine hK _ _ ?_;clear hK K)
  refine AWp.condF rfl (AWp.skip (hK1 _ _ ?_))
  clear hK1 K1
  refine AWp.seqK fun K1 hK1=>?_
  (refine AWp.seqR [0,1,2,3,4,5,6,7,8,9,10,11,12,13,14,17,32,46,54,64,69,78,84,89,98,123,125,134,144,150] [] (by decide +kernel) fun K hK=>?_;simp -implicitDefEqProofs only [EV,Nat.reduceEqDiff,reduceCtorEq,TF3,TF28,];refine hK _ _ ?_;clear hK K)
  refine AWp.condT rfl ?_
  refine AWp.seqK fun K2 hK2=>?_
  (refine AWp.seqR [0,1,2,3,4,5,6,7,8,9,10,11,12,13,14,17,32,46,54,64,69,78,84,89,98,123,125,134,144,150] [] (by decide +kernel) fun K hK=>?_;simp -implicitDefEqProofs only [EV,Nat.reduceAdd,Nat.reduceEqDiff,Nat.reduceLeDiff,reduceCtorEq,TF25,TF28,TF30,];refine⟨_,.inl ⟨_,rfl,hi,rfl⟩,?_⟩;(try simp -implicitDefEqProofs only [EV,]);refine hK _ _ ?_;clear hK K)
  refine AWp.skipIfK rfl hK2 ?_
  (refine AWp.seqR [0,1,2,3,4,5,6,7,8,9,10,11,12,13,14,17,32,46,54,64,69,78,84,89,98,123,125,134,144,150] [] (by decide +kernel) fun K hK=>?_;simp -implicitDefEqProofs only [EV,Nat.reduceAdd,Nat.reduceEqDiff,reduceCtorEq,TF28,];refine hK _ _ ?_;clear hK K)
  exact AWp.ret ⟨_,by rw [Tryz.results52];rfl,rfl⟩
 ·rw [if_pos rfl]
  rw [hx]
  (refine CallOK.of_body Tryz.func52 rfl (by decide) (by rw [Tryz.ntmps52];simp) ?_;rw [Tryz.ntmps52])
  (refine AWp.seqR [0,1,2,3,4,5,6,7,8,9,10,11,12,13,14,17,32,46,54,64,69,78,84,89,98,123,125,134,144,150] [] (by decide +kernel) fun K hK=>?_;simp -implicitDefEqProofs only [EV,Nat.reduceAdd,Nat.reduceEqDiff,Nat.reduceBEq,Nat.reduceLeDiff,reduceCtorEq,TF28,];refine hK _ _ ?_;clear hK K)
  refine AWp.seqK fun K1 hK1=>?_
  (refine AWp.seqR [0,1,2,3,4,5,6,7,8,9,10,11,12,13,14,17,32,46,54,64,69,78,84,89,98,123,125,134,144,150] [] (by decide +kernel) fun K hK=>?_;simp -implicitDefEqProofs only [EV,Nat.reduceEqDiff,Int.reduceEq,reduceCtorEq,TF3,TF28,];refine hK _ _ ?_;clear hK K)
  refine AWp.skipIfK rfl hK1 ?_
  clear hK1 K1
  refine AWp.seqK fun K1 hK1=>?_
  (refine AWp.seqR [0,1,2,3,4,5,6,7,8,9,10,11,12,13,14,17,32,46,54,64,69,78,84,89,98,123,125,134,144,150] [] (by decide +kernel) fun K hK=>?_;simp -implicitDefEqProofs only [EV,Nat.reduceEqDiff,Int.reduceLT,reduceCtorEq,TF3,TF26,TF28,hlen];refine hK _ _ ?_;clear hK K)
  refine AWp.skipIfK rfl hK1 ?_
  clear hK1 K1
  (refine AWp.seqR [0,1,2,3,4,5,6,7,8,9,10,11,12,13,14,17,32,46,54,64,69,78,84,89,98,123,125,134,144,150] [] (by decide +kernel) fun K hK=>?_;simp -implicitDefEqProofs only [EV,Nat.reduceEqDiff,Int.reduceLE,Int.reduceToNat,reduceCtorEq,TF26,TF28,];refine⟨_,exR_get h0,rfl,?_⟩;(try simp -implicitDefEqProofs only [EV,Nat.reduceAdd,Nat.reduceEqDiff,Nat.reduceBEq,Nat.reduceLeDiff,reduceCtorEq,TF28,]);refine hK _ _ ?_;clear hK K)
  refine AWp.seqK fun K1 hK1=>?_
  (refine AWp.seqR [0,1,2,3,4,5,6,7,8,9,10,11,12,13,14,17,32,46,54,64,69,78,84,89,98,123,125,134,144,150] [] (by decide +kernel) fun K hK=>?_;simp -implicitDefEqProofs only [EV,Nat.reduceEqDiff,Int.reduceEq,reduceCtorEq,TF3,TF28,];refine hK _ _ ?_;clear hK K)
  refine AWp.condF rfl (AWp.skip (hK1 _ _ ?_))
  clear hK1 K1
  refine AWp.seqK fun K1 hK1=>?_
  (refine AWp.seqR [0,1,2,3,4,5,6,7,8,9,10,11,12,13,14,17,32,46,54,64,69,78,84,89,98,123,125,134,144,150] [] (by decide +kernel) fun K hK=>?_;simp -implicitDefEqProofs only [EV,Nat.reduceEqDiff,reduceCtorEq,TF3,TF28,];refine hK _ _ ?_;clear hK K)
  refine AWp.condT rfl ?_
  refine AWp.seqK fun K2 hK2=>?_
  (refine AWp.seqR [0,1,2,3,4,5,6,7,8,9,10,11,12,13,14,17,32,46,54,64,69,78,84,89,98,123,125,134,144,150] [] (by decide +kernel) fun K hK=>?_;simp -implicitDefEqProofs only [EV,Nat.reduceAdd,Nat.reduceEqDiff,Nat.reduceLeDiff,reduceCtorEq,TF25,TF28,TF30,];refine⟨_,.inl ⟨_,rfl,hi,rfl⟩,?_⟩;(try simp -implicitDefEqProofs only [EV,]);refine hK _ _ ?_;clear hK K)
  refine AWp.takeIfK rfl ?_
  (refine AWp.seqR [0,1,2,3,4,5,6,7,8,9,10,11,12,13,14,17,32,46,54,64,69,78,84,89,98,123,125,134,144,150] [] (by decide +kernel) fun K hK=>?_;simp -implicitDefEqProofs only [EV,Nat.reduceAdd,Nat.reduceEqDiff,reduceCtorEq,TF28,];refine hK _ _ ?_;clear hK K)
  exact AWp.ret ⟨_,by rw [Tryz.results52];rfl,rfl⟩
theorem ok_rdxCall (p:Prog)(h:p.Sm)(e v:Ex)(he:e.Sm)(h0:e.kids[0]? = some v)(hk:e.kind=2):CallOK Tryz.prog 52 [prV p,exV e] (resV (callE p e v)):=by
 have hv:=he.kids.2 v (List.mem_of_getElem? h0)
 have hm:=ok_Method p h.decls.1 v.type e.name
 have hkl:=he.kids.1
 have hx:exV e=.agg [.d (.int .i64 2),.d (.str e.name),.d (.str e.type.name),.d (.slice (tyR e.type.args)),.d (.int .i64 e.type.pos),.d (.slice (tyR e.targs)),.d (.slice (exR e.kids)),.d (.int .i64 e.pos)]:=by rw [← hk]
 have hlen:¬ (e.kids.length:Int)=0:=by have:=(List.getElem?_eq_some_iff.1 h0).1;omega
 unfold callE
 rcases methP_methD p v.type e.name with ⟨g1,g2⟩ | ⟨i,d,g1,g2,g3⟩
 ·rw [g2]
  simp only
  generalize methP p v.type e.name=z at *
  rw [show resV (e,4)=.tuple [exV e,intV 4] from rfl,hx]
  (refine CallOK.of_body Tryz.func52 rfl (by decide) (by rw [Tryz.ntmps52];simp) ?_;rw [Tryz.ntmps52])
  (refine AWp.seqR [0,1,2,3,4,5,6,7,8,9,10,11,12,13,14,17,32,46,54,64,69,78,84,89,98,123,125,134,144,150] [] (by decide +kernel) fun K hK=>?_;simp -implicitDefEqProofs only [EV,Nat.reduceAdd,Nat.reduceEqDiff,Nat.reduceBEq,Nat.reduceLeDiff,reduceCtorEq,TF28,];refine hK _ _ ?_;clear hK K)
  refine AWp.seqK fun K1 hK1=>?_
  (refine AWp.seqR [0,1,2,3,4,5,6,7,8,9,10,11,12,13,14,17,32,46,54,64,69,78,84,89,98,123,125,134,144,150] [] (by decide +kernel) fun K hK=>?_;simp -implicitDefEqProofs only [EV,Nat.reduceEqDiff,Int.reduceEq,reduceCtorEq,TF3,TF28,];refine hK _ _ ?_;clear hK K)
  refine AWp.skipIfK rfl hK1 ?_
  clear hK1 K1
  refine AWp.seqK fun K1 hK1=>?_
  (refine AWp.seqR [0,1,2,3,4,5,6,7,8,9,10,11,12,13,14,17,32,46,54,64,69,78,84,89,98,123,125,134,144,150] [] (by decide +kernel) fun K hK=>?_;simp -implicitDefEqProofs only [EV,Nat.reduceEqDiff,Int.reduceLT,reduceCtorEq,TF3,TF26,TF28,hlen];refine hK _ _ ?_;clear hK K)
  refine AWp.skipIfK rfl hK1 ?_
  clear hK1 K1
  (refine AWp.seqR [0,1,2,3,4,5,6,7,8,9,10,11,12,13,14,17,32,46,54,64,69,78,84,89,98,123,125,134,144,150] [] (by decide +kernel) fun K hK=>?_;simp -implicitDefEqProofs only [EV,Nat.reduceEqDiff,Int.reduceLE,Int.reduceToNat,reduceCtorEq,TF26,TF28,];refine⟨_,exR_get h0,rfl,?_⟩;(try simp -implicitDefEqProofs only [EV,Nat.reduceAdd,Nat.reduceEqDiff,Nat.reduceBEq,Nat.reduceLeDiff,reduceCtorEq,TF28,]);refine hK _ _ ?_;clear hK K)
  refine AWp.seqK fun K1 hK1=>?_
  (refine AWp.seqR [0,1,2,3,4,5,6,7,8,9,10,11,12,13,14,17,32,46,54,64,69,78,84,89,98,123,125,134,144,150] [] (by decide +kernel) fun K hK=>?_;simp -implicitDefEqProofs only [EV,Nat.reduceEqDiff,Int.reduceEq,reduceCtorEq,TF3,TF28,];refine hK _ _ ?_;clear hK K)
  refine AWp.condF rfl (AWp.skip (hK1 _ _ ?_))
  clear hK1 K1
  refine AWp.seqK fun K1 hK1=>?_
  (refine AWp.seqR [0,1,2,3,4,5,6,7,8,9,10,11,12,13,14,17,32,46,54,64,69,78,84,89,98,123,125,134,144,150] [] (by decide +kernel) fun K hK=>?_;simp -implicitDefEqProofs only [EV,Nat.reduceEqDiff,Int.reduceEq,reduceCtorEq,TF3,TF28,];refine hK _ _ ?_;clear hK K)
  refine AWp.condF rfl (AWp.skip (hK1 _ _ ?_))
  clear hK1 K1
  refine AWp.seqK fun K1 hK1=>?_
  (refine AWp.seqR [0,1,2,3,4,5,6,7,8,9,10,11,12,13,14,17,32,46,54,64,69,78,84,89,98,123,125,134,144,150] [] (by decide +kernel) fun K hK=>?_;simp -implicitDefEqProofs only [EV,Nat.reduceEqDiff,Int.reduceEq,reduceCtorEq,TF3,TF28,];refine hK _ _ ?_;clear hK K)
  refine AWp.skipIfK rfl hK1 ?_
  clear hK1 K1
  (refine AWp.seqR [0,1,2,3,4,5,6,7,8,9,10,11,12,13,14,17,32,46,54,64,69,78,84,89,98,123,125,134,144,150] [] (by decide +kernel) fun K hK=>?_;simp -implicitDefEqProofs only [EV,Nat.reduceAdd,Nat.reduceEqDiff,Nat.reduceLeDiff,reduceCtorEq,TF9,TF25,TF28,TF30,];refine⟨_,.inl ⟨_,rfl,hm,rfl⟩,?_⟩;(try simp -implicitDefEqProofs only [EV,]);refine hK _ _ ?_;clear hK K)
  refine AWp.seqK fun K1 hK1=>?_
  (refine AWp.seqR [0,1,2,3,4,5,6,7,8,9,10,11,12,13,14,17,32,46,54,64,69,78,84,89,98,123,125,134,144,150] [] (by decide +kernel) fun K hK=>?_;simp -implicitDefEqProofs only [EV,Nat.reduceEqDiff,reduceCtorEq,g1];refine hK _ _ ?_;clear hK K)
  refine AWp.takeIfK rfl ?_
  (refine AWp.seqR [0,1,2,3,4,5,6,7,8,9,10,11,12,13,14,17,32,46,54,64,69,78,84,89,98,123,125,134,144,150] [] (by decide +kernel) fun K hK=>?_;simp -implicitDefEqProofs only [EV,Nat.reduceAdd,Nat.reduceEqDiff,reduceCtorEq,TF28,];refine hK _ _ ?_;clear hK K)
  exact AWp.ret ⟨_,by rw [Tryz.results52];rfl,rfl⟩
 ·rw [g3]
  rw [g1] at hm
  simp only
  have hds:=h.decls.2 d (List.mem_of_getElem? g2)
  have hi0:¬ (i:Int) < 0:=by omega
  have hpl:=hds.sig.params.1
  (refine CallOK.of_body Tryz.func52 rfl (by decide) (by rw [Tryz.ntmps52];simp) ?_;rw [Tryz.ntmps52])
  rw [hx]
  (refine AWp.seqR [0,1,2,3,4,5,6,7,8,9,10,11,12,13,14,17,32,46,54,64,69,78,84,89,98,123,125,134,144,150] [] (by decide +kernel) fun K hK=>?_;simp -implicitDefEqProofs only [EV,Nat.reduceAdd,Nat.reduceEqDiff,Nat.reduceBEq,Nat.reduceLeDiff,reduceCtorEq,TF28,];refine hK _ _ ?_;clear hK K)
  refine AWp.seqK fun K1 hK1=>?_
  (refine AWp.seqR [0,1,2,3,4,5,6,7,8,9,10,11,12,13,14,17,32,46,54,64,69,78,84,89,98,123,125,134,144,150] [] (by decide +kernel) fun K hK=>?_;simp -implicitDefEqProofs only [EV,Nat.reduceEqDiff,Int.reduceEq,reduceCtorEq,TF3,TF28,];refine hK _ _ ?_;clear hK K)
  refine AWp.skipIfK rfl hK1 ?_
  clear hK1 K1
  refine AWp.seqK fun K1 hK1=>?_
  (refine AWp.seqR [0,1,2,3,4,5,6,7,8,9,10,11,12,13,14,17,32,46,54,64,69,78,84,89,98,123,125,134,144,150] [] (by decide +kernel) fun K hK=>?_;simp -implicitDefEqProofs only [EV,Nat.reduceEqDiff,Int.reduceLT,reduceCtorEq,TF3,TF26,TF28,hlen];refine hK _ _ ?_;clear hK K)
  refine AWp.skipIfK rfl hK1 ?_
  clear hK1 K1
  (refine AWp.seqR [0,1,2,3,4,5,6,7,8,9,10,11,12,13,14,17,32,46,54,64,69,78,84,89,98,123,125,134,144,150] [] (by decide +kernel) fun K hK=>?_;simp -implicitDefEqProofs only [EV,Nat.reduceEqDiff,Int.reduceLE,Int.reduceToNat,reduceCtorEq,TF26,TF28,];refine⟨_,exR_get h0,rfl,?_⟩;(try simp -implicitDefEqProofs only [EV,Nat.reduceAdd,Nat.reduceEqDiff,Nat.reduceBEq,Nat.reduceLeDiff,reduceCtorEq,TF28,]);refine hK _ _ ?_;clear hK K)
  refine AWp.seqK fun K1 hK1=>?_
  (refine AWp.seqR [0,1,2,3,4,5,6,7,8,9,10,11,12,13,14,17,32,46,54,64,69,78,84,89,98,123,125,134,144,150] [] (by decide +kernel) fun K hK=>?_;simp -implicitDefEqProofs only [EV,Nat.reduceEqDiff,Int.reduceEq,reduceCtorEq,TF3,TF28,];refine hK _ _ ?_;clear hK K)
  refine AWp.condF rfl (AWp.skip (hK1 _ _ ?_))
  clear hK1 K1
  refine AWp.seqK fun K1 hK1=>?_
  (refine AWp.seqR [0,1,2,3,4,5,6,7,8,9,10,11,12,13,14,17,32,46,54,64,69,78,84,89,98,123,125,134,144,150] [] (by decide +kernel) fun K hK=>?_;simp -implicitDefEqProofs only [EV,Nat.reduceEqDiff,Int.reduceEq,reduceCtorEq,TF3,TF28,];refine hK _ _ ?_;clear hK K)
  refine AWp.condF rfl (AWp.skip (hK1 _ _ ?_))
  clear hK1 K1
  refine AWp.seqK fun K1 hK1=>?_
  (refine AWp.seqR [0,1,2,3,4,5,6,7,8,9,10,11,12,13,14,17,32,46,54,64,69,78,84,89,98,123,125,134,144,150] [] (by decide +kernel) fun K hK=>?_;simp -implicitDefEqProofs only [EV,Nat.reduceEqDiff,Int.reduceEq,reduceCtorEq,TF3,TF28,];refine hK _ _ ?_;clear hK K)
  refine AWp.skipIfK rfl hK1 ?_
  clear hK1 K1
  (refine AWp.seqR [0,1,2,3,4,5,6,7,8,9,10,11,12,13,14,17,32,46,54,64,69,78,84,89,98,123,125,134,144,150] [] (by decide +kernel) fun K hK=>?_;simp -implicitDefEqProofs only [EV,Nat.reduceAdd,Nat.reduceEqDiff,Nat.reduceLeDiff,reduceCtorEq,TF9,TF25,TF28,TF30,];refine⟨_,.inl ⟨_,rfl,hm,rfl⟩,?_⟩;(try simp -implicitDefEqProofs only [EV,]);refine hK _ _ ?_;clear hK K)
  refine AWp.seqK fun K1 hK1=>?_
  (refine AWp.seqR [0,1,2,3,4,5,6,7,8,9,10,11,12,13,14,17,32,46,54,64,69,78,84,89,98,123,125,134,144,150] [] (by decide +kernel) fun K hK=>?_;simp -implicitDefEqProofs only [EV,Nat.reduceEqDiff,reduceCtorEq,hi0];refine hK _ _ ?_;clear hK K)
  refine AWp.skipIfK rfl hK1 ?_
  clear hK1 K1
  (refine AWp.seqR [0,1,2,3,4,5,6,7,8,9,10,11,12,13,14,17,32,46,54,64,69,78,84,89,98,123,125,134,144,150] [] (by decide +kernel) fun K hK=>?_;simp -implicitDefEqProofs only [EV,Nat.reduceEqDiff,reduceCtorEq,TF22,TF30,TF80,];refine⟨by omega,_,deR_get g2,rfl,?_⟩;(try simp -implicitDefEqProofs only [EV,Nat.reduceAdd,Nat.reduceEqDiff,Nat.reduceBEq,Nat.reduceLeDiff,reduceCtorEq,TF80,]);refine hK _ _ ?_;clear hK K)
  by_cases hl1:d.sig.formals.length=e.targs.length
  ·have hl1':(d.sig.formals.length:Int)=e.targs.length:=by omega
   by_cases hl2:d.sig.params.length+1=e.kids.length
   ·have hl2':(d.sig.params.length:Int)+1=e.kids.length:=by omega
    rw [if_pos ⟨hl1,hl2⟩]
    refine AWp.seqK fun K1 hK1=>?_
    (refine AWp.seqR [0,1,2,3,4,5,6,7,8,9,10,11,12,13,14,17,32,46,54,64,69,78,84,89,98,123,125,134,144,150] [] (by decide +kernel) fun K hK=>?_;simp -implicitDefEqProofs only [EV,Nat.reduceAdd,Nat.reduceEqDiff,reduceCtorEq,TF23,TF26,TF28,TF46,TF47,TF78,TF80,hl1',hl2',TF46,TF23,TF47,TF26];refine⟨by first | (unfold InR;omega) | (simp only [InR,sm] at *;omega),?_⟩;(try simp -implicitDefEqProofs only [EV,forall_const,implies_true,Nat.reduceAdd,Nat.reduceEqDiff,Nat.reduceBEq,Nat.reduceLeDiff,Nat.reduceSub,Nat.reduceMul,Int.reduceEq,Int.reduceLT,Int.reduceLE,Int.reduceSub,Int.reduceAdd,Int.reduceToNat,reduceCtorEq,Int.reduceNeg,TF3,TF4,TF9,TF22,TF23,TF25,TF26,TF28,TF30,TF46,TF47,TF76,TF78,TF80,TF84,TF91,hl1',hl2',TF46,TF23,TF47,TF26]);refine hK _ _ ?_;clear hK K)
    refine AWp.skipIfK rfl hK1 ?_
    clear hK1 K1
    have hnm:=ok_RefNames d.sig.formals hds.sig.formals.1
    have hargs:∀ u,u∈v.type.args++e.targs→u.Sm:=fun u hu=>(List.mem_append.1 hu).elim (hv.type.arg u) (he.targs.2 u)
    have hsub:=ok_R5Subst (d.vars++fnames d.sig.formals) (v.type.args++e.targs) hargs d.body hds.body
    have hsm:=Ex.Sm.subst (vars:=d.vars++fnames d.sig.formals) hargs d.body hds.body
    unfold calledE
    generalize d.body.subst (d.vars++fnames d.sig.formals) (v.type.args++e.targs)=body at *
    have hrep:=ok_R5Replace (d.recv::d.sig.params.map (·.name)) e.kids he.kids.2 body hsm
    rw [strsV,strR_append,tysV,tyR_append] at hsub
    have hvl:=hds.vars.1
    have hfl:=hds.sig.formals.1
    have hal:=hv.type.len
    have htl:=he.targs.1
    have hfn:(fnames d.sig.formals).length=d.sig.formals.length:=by simp [fnames]
    rw [show d.sig.formals.map (fun f=>f.name)=fnames d.sig.formals from rfl] at hnm
    generalize fnames d.sig.formals=ns at *
    (refine AWp.seqDC [0,1,2,3,4,5,6,7,8,9,10,11,12,13,14,17,32,46,54,64,69,78,84,89,98,123,125,134,144,150] [125] 9 125 133 0 [0,3,8] [] (.acc 125) rfl mixed (by decide +kernel) (by decide +kernel) (by decide +kernel) (by decide) ⟨8,by decide,by decide,by decide,rfl⟩ (by simp) rfl fun K hK=>?_;simp -implicitDefEqProofs only [EV,];refine chV_step0 (dst:=some 125) (e:=3) (i1:=1) (f:=(.acc 125)) (ps:=[125]) rfl rfl rfl rfl rfl rfl ?_;(try simp -implicitDefEqProofs only [EV,Nat.reduceEqDiff,Nat.reduceBEq,Nat.reduceLeDiff,Nat.reduceMul,TF9,TF76,]);refine chK_ok rfl (by simp) ?_;(try simp -implicitDefEqProofs only [EV,Nat.reduceEqDiff,reduceCtorEq,TF76,TF80,]);refine chV_step1 (dst:=some 128) (e:=8) (i1:=4) (f:=(.acc 125)) (ps:=[125]) rfl rfl rfl rfl rfl rfl ?_;(try simp -implicitDefEqProofs only [EV,Nat.reduceEqDiff,Nat.reduceBEq,Nat.reduceLeDiff,reduceCtorEq,TF9,TF76,]);refine⟨strR_row _,by unfold lim sm at *;omega,?_⟩;(try simp -implicitDefEqProofs only [EV,forall_const,implies_true,Nat.reduceAdd,Nat.reduceEqDiff,Nat.reduceBEq,Nat.reduceLeDiff,Nat.reduceSub,Nat.reduceMul,Int.reduceEq,Int.reduceLT,Int.reduceLE,Int.reduceSub,Int.reduceAdd,Int.reduceToNat,reduceCtorEq,Int.reduceNeg,TF3,TF4,TF9,TF22,TF23,TF25,TF26,TF28,TF30,TF46,TF47,TF76,TF78,TF80,TF84,TF91]);refine chK_ok rfl (by simp) ?_;(try simp -implicitDefEqProofs only [EV,Nat.reduceAdd,Nat.reduceEqDiff,reduceCtorEq,TF46,TF78,TF80,]);refine⟨_,.inl ⟨_,rfl,hnm,rfl⟩,?_⟩;(try simp -implicitDefEqProofs only [EV,forall_const,implies_true,Nat.reduceAdd,Nat.reduceEqDiff,Nat.reduceBEq,Nat.reduceLeDiff,Nat.reduceSub,Nat.reduceMul,Int.reduceEq,Int.reduceLT,Int.reduceLE,Int.reduceSub,Int.reduceAdd,Int.reduceToNat,reduceCtorEq,Int.reduceNeg,TF3,TF4,TF9,TF22,TF23,TF25,TF26,TF28,TF30,TF46,TF47,TF76,TF78,TF80,TF84,TF91]);refine chV_step1 (dst:=some 133) (e:=9) (i1:=9) (f:=(.acc 125)) (ps:=[125]) rfl rfl rfl rfl rfl rfl ?_;(try simp -implicitDefEqProofs only [EV,Nat.reduceEqDiff,Nat.reduceBEq,Nat.reduceLeDiff,reduceCtorEq,TF9,TF76,]);refine⟨strR_row _,by unfold lim sm at *;omega,?_⟩;(try simp -implicitDefEqProofs only [EV,forall_const,implies_true,Nat.reduceAdd,Nat.reduceEqDiff,Nat.reduceBEq,Nat.reduceLeDiff,Nat.reduceSub,Nat.reduceMul,Int.reduceEq,Int.reduceLT,Int.reduceLE,Int.reduceSub,Int.reduceAdd,Int.reduceToNat,reduceCtorEq,Int.reduceNeg,TF3,TF4,TF9,TF22,TF23,TF25,TF26,TF28,TF30,TF46,TF47,TF76,TF78,TF80,TF84,TF91]);refine chK_ok rfl (by simp) ?_;(try simp -implicitDefEqProofs only [EV,]);refine chV_end rfl ?_;(try simp -implicitDefEqProofs only [EV,Nat.reduceEqDiff,Nat.reduceBEq,reduceCtorEq,]);refine hK _ _ ?_;clear hK K)
    refine AWp.publish 125 rfl (AWp.weaken (sl':=[(3,.box 3 0),(4,.box 4 0),(6,.box 6 0),(10,.box 10 0),(11,.d (.slice (strR d.vars++strR ns)))]) (bx':=[(3,.cells (exK 2 e)),(4,.cells [.d (.int .i64 0),.d (.str []),.d (.str []),.d .nil,.d (.int .i64 0),.d .nil,.d .nil,.d (.int .i64 0)]),(6,.cells (exS v)),(10,.cells ((deC d).map .d))])
     ⟨.inr (.inl rfl),.inr (.inl rfl),.inr (.inl rfl),.inr (.inl rfl),.inr (.inl rfl),trivial⟩ ⟨rfl,rfl,rfl,rfl,trivial⟩ ?_)
    (refine AWp.seqDC [0,1,2,3,4,5,6,7,8,9,10,11,12,13,14,17,32,46,54,64,69,78,84,89,98,123,125,134,144,150] [134] 8 134 141 0 [0,4,7] [] (.acc 134) rfl mixed (by decide +kernel) (by decide +kernel) (by decide +kernel) (by decide) ⟨7,by decide,by decide,by decide,rfl⟩ (by simp) rfl fun K hK=>?_;simp -implicitDefEqProofs only [EV,];refine chV_step0 (dst:=some 134) (e:=4) (i1:=1) (f:=(.acc 134)) (ps:=[134]) rfl rfl rfl rfl rfl rfl ?_;(try simp -implicitDefEqProofs only [EV,Nat.reduceAdd,Nat.reduceEqDiff,Nat.reduceBEq,Nat.reduceLeDiff,Nat.reduceMul,TF23,TF25,]);refine chK_ok rfl (by simp) ?_;(try simp -implicitDefEqProofs only [EV,Nat.reduceAdd,Nat.reduceEqDiff,TF23,TF25,TF28,]);refine chV_step1 (dst:=some 138) (e:=7) (i1:=5) (f:=(.acc 134)) (ps:=[134]) rfl rfl rfl rfl rfl rfl ?_;(try simp -implicitDefEqProofs only [EV,Nat.reduceAdd,Nat.reduceEqDiff,Nat.reduceBEq,Nat.reduceLeDiff,reduceCtorEq,TF23,TF25,]);refine⟨tyR_row _,by unfold lim sm at *;omega,?_⟩;(try simp -implicitDefEqProofs only [EV,forall_const,implies_true,Nat.reduceAdd,Nat.reduceEqDiff,Nat.reduceBEq,Nat.reduceLeDiff,Nat.reduceSub,Nat.reduceMul,Int.reduceEq,Int.reduceLT,Int.reduceLE,Int.reduceSub,Int.reduceAdd,Int.reduceToNat,reduceCtorEq,Int.reduceNeg,TF3,TF4,TF9,TF22,TF23,TF25,TF26,TF28,TF30,TF46,TF47,TF76,TF78,TF80,TF84,TF91]);refine chK_ok rfl (by simp) ?_;(try simp -implicitDefEqProofs only [EV,Nat.reduceEqDiff,TF23,TF28,]);refine chV_step1 (dst:=some 141) (e:=8) (i1:=8) (f:=(.acc 134)) (ps:=[134]) rfl rfl rfl rfl rfl rfl ?_;(try simp -implicitDefEqProofs only [EV,Nat.reduceAdd,Nat.reduceEqDiff,Nat.reduceBEq,Nat.reduceLeDiff,reduceCtorEq,TF23,TF25,]);refine⟨tyR_row _,by unfold lim sm at *;omega,?_⟩;(try simp -implicitDefEqProofs only [EV,forall_const,implies_true,Nat.reduceAdd,Nat.reduceEqDiff,Nat.reduceBEq,Nat.reduceLeDiff,Nat.reduceSub,Nat.reduceMul,Int.reduceEq,Int.reduceLT,Int.reduceLE,Int.reduceSub,Int.reduceAdd,Int.reduceToNat,reduceCtorEq,Int.reduceNeg,TF3,TF4,TF9,TF22,TF23,TF25,TF26,TF28,TF30,TF46,TF47,TF76,TF78,TF80,TF84,TF91]);refine chK_ok rfl (by simp) ?_;(try simp -implicitDefEqProofs only [EV,]);refine chV_end rfl ?_;(try simp -implicitDefEqProofs only [EV,Nat.reduceEqDiff,Nat.reduceBEq,reduceCtorEq,]);refine hK _ _ ?_;clear hK K)
    refine AWp.publish 134 rfl (AWp.weaken (sl':=[(3,.box 3 0),(4,.box 4 0),(10,.box 10 0),(11,.d (.slice (strR d.vars++strR ns))),(12,.d (.slice (tyR v.type.args++tyR e.targs)))]) (bx':=[(3,.cells (exK 2 e)),(4,.cells [.d (.int .i64 0),.d (.str []),.d (.str []),.d .nil,.d (.int .i64 0),.d .nil,.d .nil,.d (.int .i64 0)]),(10,.cells ((deC d).map .d))])
     ⟨.inr (.inl rfl),.inr (.inl rfl),.inr (.inl rfl),.inr (.inl rfl),.inr (.inl rfl),trivial⟩ ⟨rfl,rfl,rfl,trivial⟩ ?_)
    (refine AWp.seqR [0,1,2,3,4,5,6,7,8,9,10,11,12,13,14,17,32,46,54,64,69,78,84,89,98,123,125,134,144,150] [144] (by decide +kernel) fun K hK=>?_;simp -implicitDefEqProofs only [EV,Nat.reduceEqDiff,Nat.reduceBEq,Nat.reduceLeDiff,Nat.reduceMul,reduceCtorEq,TF9,TF76,TF80,];refine hK _ _ ?_;clear hK K)
    refine AWp.seqK fun K1 hK1=>?_
    (refine AWp.seqR [0,1,2,3,4,5,6,7,8,9,10,11,12,13,14,17,32,46,54,64,69,78,84,89,98,123,125,134,144,150] [] (by decide +kernel) fun K hK=>?_;simp -implicitDefEqProofs only [EV,Nat.reduceEqDiff,reduceCtorEq,];refine hK _ _ ?_;clear hK K)
    refine AWp.block (AWp.forIdx d.sig.params (X:=Unit) (fun j _=>[(3,.box 3 0),(4,.box 4 0),(10,.box 10 0),(11,.d (.slice (strR d.vars++strR ns))),(12,.d (.slice (tyR v.type.args++tyR e.targs))),(13,.acc 144),(14,intV j)])
     (fun j _=>[(3,.cells (exK 2 e)),(4,.cells [.d (.int .i64 0),.d (.str []),.d (.str []),.d .nil,.d (.int .i64 0),.d .nil,.d .nil,.d (.int .i64 0)]),(10,.cells ((deC d).map .d)),(144,.rows 1 (strR (d.recv::(d.sig.params.take j).map (·.name))))])
     (fun j _=>True) () trivial (by simp [sle,vle,sget]) (by simp [ble,bget,strR,exK,deC]) ?_ ?_)
    ·intro _ _
     rw [List.take_length]
     refine AWp.seqK fun K2 hK2=>?_
     (refine AWp.seqR [0,1,2,3,4,5,6,7,8,9,10,11,12,13,14,17,32,46,54,64,69,78,84,89,98,123,125,134,144,150] [] (by decide +kernel) fun K hK=>?_;simp -implicitDefEqProofs only [EV,Nat.reduceAdd,Nat.reduceEqDiff,reduceCtorEq,TF47,TF78,TF80,Int.lt_irrefl];refine hK _ _ ?_;clear hK K)
     refine AWp.stopK rfl ?_
     simp only [thenA,blockA,if_true]
     refine hK1 _ _ ?_
     clear hK1 K1 hK2 K2
     refine AWp.publish 144 rfl (AWp.weaken (sl':=[(3,.box 3 0),(4,.box 4 0),(10,.box 10 0),(11,.d (.slice (strR d.vars++strR ns))),(12,.d (.slice (tyR v.type.args++tyR e.targs))),(13,.d (.slice (strR (d.recv::d.sig.params.map (·.name)))))]) (bx':=[(3,.cells (exK 2 e)),(4,.cells [.d (.int .i64 0),.d (.str []),.d (.str []),.d .nil,.d (.int .i64 0),.d .nil,.d .nil,.d (.int .i64 0)]),(10,.cells ((deC d).map .d))])
      ⟨.inr (.inl rfl),.inr (.inl rfl),.inr (.inl rfl),.inr (.inl rfl),.inr (.inl rfl),.inr (.inl rfl),trivial⟩ ⟨rfl,rfl,rfl,trivial⟩ ?_)
     (refine AWp.seqD [0,1,2,3,4,5,6,7,8,9,10,11,12,13,14,17,32,46,54,64,69,78,84,89,98,123,125,134,144,150] [] 9 mixed (by decide +kernel) (by decide +kernel) fun K hK=>?_;simp -implicitDefEqProofs only [EV,Nat.reduceAdd,Nat.reduceEqDiff,Nat.reduceLeDiff,TF26,TF28,TF80,];refine⟨_,.inl ⟨_,rfl,hsub,rfl⟩,?_⟩;(try simp -implicitDefEqProofs only [EV,]);refine⟨_,.inl ⟨_,rfl,hrep,rfl⟩,?_⟩;(try simp -implicitDefEqProofs only [EV,Nat.reduceAdd,Nat.reduceEqDiff,reduceCtorEq,]);refine hK _ _ ?_;clear hK K)
     exact AWp.ret ⟨_,by rw [Tryz.results52];rfl,rfl⟩
    ·intro j _ f hf hmem hdrop htake hlt _
     rw [htake]
     refine AWp.seqK fun K2 hK2=>?_
     (refine AWp.seqR [0,1,2,3,4,5,6,7,8,9,10,11,12,13,14,17,32,46,54,64,69,78,84,89,98,123,125,134,144,150] [] (by decide +kernel) fun K hK=>?_;simp -implicitDefEqProofs only [EV,Nat.reduceAdd,Nat.reduceEqDiff,reduceCtorEq,TF47,TF78,TF80,hlt];refine hK _ _ ?_;clear hK K)
     refine AWp.goOnK rfl hK2 ?_
     clear hK2 K2
     refine AWp.seqK fun K2 hK2=>?_
     refine AWp.block ?_
     (refine AWp.lastR [0,1,2,3,4,5,6,7,8,9,10,11,12,13,14,17,32,46,54,64,69,78,84,89,98,123,125,134,144,150] [] (by decide +kernel) fun K hK=>?_;simp -implicitDefEqProofs only [EV,Nat.reduceAdd,Nat.reduceEqDiff,reduceCtorEq,TF9,TF47,TF78,TF80,TF91];refine⟨by omega,_,paR_get hf,rfl,?_⟩;(try simp -implicitDefEqProofs only [EV,Nat.reduceEqDiff,Nat.reduceBEq,Nat.reduceLeDiff,Nat.reduceMul,reduceCtorEq,TF9,TF76,]);refine⟨by simp,by simp only [List.length_map,List.length_take];unfold lim sm at *;omega,?_⟩;(try simp -implicitDefEqProofs only [EV,forall_const,implies_true,Nat.reduceAdd,Nat.reduceEqDiff,Nat.reduceBEq,Nat.reduceLeDiff,Nat.reduceSub,Nat.reduceMul,Int.reduceEq,Int.reduceLT,Int.reduceLE,Int.reduceSub,Int.reduceAdd,Int.reduceToNat,reduceCtorEq,Int.reduceNeg,TF3,TF4,TF9,TF22,TF23,TF25,TF26,TF28,TF30,TF46,TF47,TF76,TF78,TF80,TF84,TF91]);refine hK _ _ ?_;clear hK K;try simp only [thenA,blockA])
     refine hK2 _ _ ?_
     clear hK2 K2
     (refine AWp.lastR [0,1,2,3,4,5,6,7,8,9,10,11,12,13,14,17,32,46,54,64,69,78,84,89,98,123,125,134,144,150] [] (by decide +kernel) fun K hK=>?_;simp -implicitDefEqProofs only [EV,Nat.reduceEqDiff,reduceCtorEq,];refine⟨by first | (unfold InR;omega) | (simp only [InR,sm] at *;omega),?_⟩;(try simp -implicitDefEqProofs only [EV,forall_const,implies_true,Nat.reduceAdd,Nat.reduceEqDiff,Nat.reduceBEq,Nat.reduceLeDiff,Nat.reduceSub,Nat.reduceMul,Int.reduceEq,Int.reduceLT,Int.reduceLE,Int.reduceSub,Int.reduceAdd,Int.reduceToNat,reduceCtorEq,Int.reduceNeg,TF3,TF4,TF9,TF22,TF23,TF25,TF26,TF28,TF30,TF46,TF47,TF76,TF78,TF80,TF84,TF91]);refine hK _ _ ?_;clear hK K;try simp only [thenA,])
     exact⟨(),trivial,(by simp [sle,vle,sget]),by simp [ble,bget,strR,exK,deC]⟩
   ·have hl2':¬ (d.sig.params.length:Int)+1=e.kids.length:=by omega
    rw [if_neg (fun hh=>hl2 hh.2)]
    rw [show resV (e,4)=.tuple [exV e,intV 4] from rfl,hx]
    refine AWp.seqK fun K1 hK1=>?_
    (refine AWp.seqR [0,1,2,3,4,5,6,7,8,9,10,11,12,13,14,17,32,46,54,64,69,78,84,89,98,123,125,134,144,150] [] (by decide +kernel) fun K hK=>?_;simp -implicitDefEqProofs only [EV,Nat.reduceAdd,Nat.reduceEqDiff,reduceCtorEq,TF23,TF26,TF28,TF46,TF47,TF78,TF80,hl1',hl2',TF46,TF23,TF47,TF26];refine⟨by first | (unfold InR;omega) | (simp only [InR,sm] at *;omega),?_⟩;(try simp -implicitDefEqProofs only [EV,forall_const,implies_true,Nat.reduceAdd,Nat.reduceEqDiff,Nat.reduceBEq,Nat.reduceLeDiff,Nat.reduceSub,Nat.reduceMul,Int.reduceEq,Int.reduceLT,Int.reduceLE,Int.reduceSub,Int.reduceAdd,Int.reduceToNat,reduceCtorEq,Int.reduceNeg,TF3,TF4,TF9,TF22,TF23,TF25,TF26,TF28,TF30,TF46,TF47,TF76,TF78,TF80,TF84,TF91,hl1',hl2',TF46,TF23,TF47,TF26]);refine hK _ _ ?_;clear hK K)
    refine AWp.takeIfK rfl ?_
    (refine AWp.seqR [0,1,2,3,4,5,6,7,8,9,10,11,12,13,14,17,32,46,54,64,69,78,84,89,98,123,125,134,144,150] [] (by decide +kernel) fun K hK=>?_;simp -implicitDefEqProofs only [EV,Nat.reduceAdd,Nat.reduceEqDiff,reduceCtorEq,TF28,];refine hK _ _ ?_;clear hK K)
    exact AWp.ret ⟨_,by rw [Tryz.results52];rfl,rfl⟩
  ·have hl1':¬ (d.sig.formals.length:Int)=e.targs.length:=by omega
   rw [if_neg (fun hh=>hl1 hh.1)]
   rw [show resV (e,4)=.tuple [exV e,intV 4] from rfl,hx]
   refine AWp.seqK fun K1 hK1=>?_
   (refine AWp.seqR [0,1,2,3,4,5,6,7,8,9,10,11,12,13,14,17,32,46,54,64,69,78,84,89,98,123,125,134,144,150] [] (by decide +kernel) fun K hK=>?_;simp -implicitDefEqProofs only [EV,Nat.reduceAdd,Nat.reduceEqDiff,reduceCtorEq,TF23,TF28,TF46,TF78,TF80,hl1',TF46,TF23];refine hK _ _ ?_;clear hK K)
   refine AWp.takeIfK rfl ?_
   (refine AWp.seqR [0,1,2,3,4,5,6,7,8,9,10,11,12,13,14,17,32,46,54,64,69,78,84,89,98,123,125,134,144,150] [] (by decide +kernel) fun K hK=>?_;simp -implicitDefEqProofs only [EV,Nat.reduceAdd,Nat.reduceEqDiff,reduceCtorEq,TF28,];refine hK _ _ ?_;clear hK K)
   exact AWp.ret ⟨_,by rw [Tryz.results52];rfl,rfl⟩
theorem ok_rdxOdd (p:Prog)(e:Ex)(h3:e.kind≠3)(h0:e.kids.length=0∨e.kind < 2∨e.kind > 5):CallOK Tryz.prog 52 [prV p,exV e] (resV (e,4)):=by
 (refine CallOK.of_body Tryz.func52 rfl (by decide) (by rw [Tryz.ntmps52];simp) ?_;rw [Tryz.ntmps52])
 (refine AWp.seqR [0,1,2,3,4,5,6,7,8,9,10,11,12,13,14,17,32,46,54,64,69,78,84,89,98,123,125,134,144,150] [] (by decide +kernel) fun K hK=>?_;simp -implicitDefEqProofs only [EV,Nat.reduceAdd,Nat.reduceEqDiff,Nat.reduceBEq,Nat.reduceLeDiff,reduceCtorEq,TF28,];refine hK _ _ ?_;clear hK K)
 refine AWp.seqK fun K1 hK1=>?_
 (refine AWp.seqR [0,1,2,3,4,5,6,7,8,9,10,11,12,13,14,17,32,46,54,64,69,78,84,89,98,123,125,134,144,150] [] (by decide +kernel) fun K hK=>?_;simp -implicitDefEqProofs only [EV,Nat.reduceEqDiff,reduceCtorEq,TF3,TF28,h3];refine hK _ _ ?_;clear hK K)
 refine AWp.skipIfK rfl hK1 ?_
 clear hK1 K1
 by_cases q0:e.kids.length=0
 ·have q0':(e.kids.length:Int)=0:=by omega
  refine AWp.seqK fun K1 hK1=>?_
  (refine AWp.seqR [0,1,2,3,4,5,6,7,8,9,10,11,12,13,14,17,32,46,54,64,69,78,84,89,98,123,125,134,144,150] [] (by decide +kernel) fun K hK=>?_;simp -implicitDefEqProofs only [EV,Nat.reduceEqDiff,reduceCtorEq,TF26,TF28,q0',TF26];refine hK _ _ ?_;clear hK K)
  refine AWp.takeIfK rfl ?_
  (refine AWp.seqR [0,1,2,3,4,5,6,7,8,9,10,11,12,13,14,17,32,46,54,64,69,78,84,89,98,123,125,134,144,150] [] (by decide +kernel) fun K hK=>?_;simp -implicitDefEqProofs only [EV,Nat.reduceAdd,Nat.reduceEqDiff,reduceCtorEq,TF28,];refine hK _ _ ?_;clear hK K)
  exact AWp.ret ⟨_,by rw [Tryz.results52];rfl,rfl⟩
 ·have q0':¬ (e.kids.length:Int)=0:=by omega
  by_cases q1:e.kind < 2
  ·refine AWp.seqK fun K1 hK1=>?_
   (refine AWp.seqR [0,1,2,3,4,5,6,7,8,9,10,11,12,13,14,17,32,46,54,64,69,78,84,89,98,123,125,134,144,150] [] (by decide +kernel) fun K hK=>?_;simp -implicitDefEqProofs only [EV,Nat.reduceEqDiff,reduceCtorEq,TF3,TF26,TF28,q0',q1,TF26];refine hK _ _ ?_;clear hK K)
   refine AWp.takeIfK rfl ?_
   (refine AWp.seqR [0,1,2,3,4,5,6,7,8,9,10,11,12,13,14,17,32,46,54,64,69,78,84,89,98,123,125,134,144,150] [] (by decide +kernel) fun K hK=>?_;simp -implicitDefEqProofs only [EV,Nat.reduceAdd,Nat.reduceEqDiff,reduceCtorEq,TF28,];refine hK _ _ ?_;clear hK K)
   exact AWp.ret ⟨_,by rw [Tryz.results52];rfl,rfl⟩
  ·have q2:e.kind > 5:=by omega
   refine AWp.seqK fun K1 hK1=>?_
   (refine AWp.seqR [0,1,2,3,4,5,6,7,8,9,10,11,12,13,14,17,32,46,54,64,69,78,84,89,98,123,125,134,144,150] [] (by decide +kernel) fun K hK=>?_;simp -implicitDefEqProofs only [EV,Nat.reduceEqDiff,reduceCtorEq,TF3,TF26,TF28,q0',q1,q2,TF26];refine hK _ _ ?_;clear hK K)
   refine AWp.takeIfK rfl ?_
   (refine AWp.seqR [0,1,2,3,4,5,6,7,8,9,10,11,12,13,14,17,32,46,54,64,69,78,84,89,98,123,125,134,144,150] [] (by decide +kernel) fun K hK=>?_;simp -implicitDefEqProofs only [EV,Nat.reduceAdd,Nat.reduceEqDiff,reduceCtorEq,TF28,];refine hK _ _ ?_;clear hK K)
   exact AWp.ret ⟨_,by rw [Tryz.results52];rfl,rfl⟩
theorem ok_rdxVal (p:Prog)(e:Ex)(hk:e.kind=3):CallOK Tryz.prog 52 [prV p,exV e] (resV (e,2)):=by
 have hx:exV e=.agg [.d (.int .i64 3),.d (.str e.name),.d (.str e.type.name),.d (.slice (tyR e.type.args)),.d (.int .i64 e.type.pos),.d (.slice (tyR e.targs)),.d (.slice (exR e.kids)),.d (.int .i64 e.pos)]:=by rw [← hk]
 rw [show resV (e,2)=.tuple [exV e,intV 2] from rfl,hx]
 (refine CallOK.of_body Tryz.func52 rfl (by decide) (by rw [Tryz.ntmps52];simp) ?_;rw [Tryz.ntmps52])
 (refine AWp.seqR [0,1,2,3,4,5,6,7,8,9,10,11,12,13,14,17,32,46,54,64,69,78,84,89,98,123,125,134,144,150] [] (by decide +kernel) fun K hK=>?_;simp -implicitDefEqProofs only [EV,Nat.reduceAdd,Nat.reduceEqDiff,Nat.reduceBEq,Nat.reduceLeDiff,reduceCtorEq,TF28,];refine hK _ _ ?_;clear hK K)
 refine AWp.seqK fun K1 hK1=>?_
 (refine AWp.seqR [0,1,2,3,4,5,6,7,8,9,10,11,12,13,14,17,32,46,54,64,69,78,84,89,98,123,125,134,144,150] [] (by decide +kernel) fun K hK=>?_;simp -implicitDefEqProofs only [EV,Nat.reduceEqDiff,reduceCtorEq,TF3,TF28,];refine hK _ _ ?_;clear hK K)
 refine AWp.takeIfK rfl ?_
 (refine AWp.seqR [0,1,2,3,4,5,6,7,8,9,10,11,12,13,14,17,32,46,54,64,69,78,84,89,98,123,125,134,144,150] [] (by decide +kernel) fun K hK=>?_;simp -implicitDefEqProofs only [EV,Nat.reduceAdd,Nat.reduceEqDiff,reduceCtorEq,TF28,];refine hK _ _ ?_;clear hK K)
 exact AWp.ret ⟨_,by rw [Tryz.results52];rfl,rfl⟩
theorem ok_redex (p:Prog)(h:p.Sm)(e:Ex)(he:e.Sm):CallOK Tryz.prog 52 [prV p,exV e] (resV (redexE p e)):=by
 unfold redexE
 by_cases h3:e.kind=3
 ·rw [if_pos h3];exact ok_rdxVal p e h3
 ·rw [if_neg h3]
  cases h0:e.kids[0]? with
  | none=>exact ok_rdxOdd p e h3 (.inl (by have:=List.getElem?_eq_none_iff.1 h0;omega))
  | some v =>
   simp only
   by_cases h2:e.kind=2
   ·rw [if_pos h2];exact ok_rdxCall p h e v he h0 h2
   ·rw [if_neg h2]
    by_cases h4:e.kind=4
    ·rw [if_pos h4];exact ok_rdxSel p h e v he h0 h4
    ·rw [if_neg h4]
     by_cases h5:e.kind=5
     ·rw [if_pos h5];exact ok_rdxAsrt p h e v he h0 h5
     ·rw [if_neg h5];exact ok_rdxOdd p e h3 (.inr (by omega))
end Go.Abs
