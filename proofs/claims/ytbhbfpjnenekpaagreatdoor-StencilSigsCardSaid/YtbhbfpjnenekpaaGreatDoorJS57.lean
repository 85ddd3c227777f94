/- castingsref16.Type -/
import Derived.Test.YtbhbfpjnenekpaaGreatDoorJS56
namespace Go.Abs
set_option maxHeartbeats 1000000
set_option linter.unusedSimpArgs false
set_option linter.unusedVariables false
open Go Go.Proofs
set_option maxRecDepth 100000
set_option maxHeartbeats 4000000
theorem varTy_neg {c:TCtx} {e:Ex} (h:fieldI c.vars e.name = -1):varTy c e=noT e.pos:=by
 unfold varTy;rw [h];split
 ·rw [if_pos (by decide)]
 ·rfl
theorem fieldT_neg {c:TCtx} {e:Ex} {x:Ty} {r:Res} (hs:structT c x=true)(h:fieldI (fieldsT c.p x) e.name = -1):fieldT c e x r=noT e.pos:=by
 unfold fieldT;rw [if_neg (by rw [hs];simp),h];split
 ·rw [if_pos (by decide)]
 ·rfl
theorem structT_inst {c:TCtx} {x:Ty} (h:structT c x=true):instB c.p x 1=true:=by
 unfold structT at h;rw [Bool.and_eq_true] at h;exact h.2
theorem boundT_of {c:TCtx} {x:Ty} (h:¬ 0≤findV c.env x):boundT c x=x:=by
 unfold boundT boundV;rw [if_pos (by omega)];rfl
theorem boundT_at {c:TCtx} {x:Ty} {f:Formal} (h:0≤findV c.env x)(hf:c.env[(findV c.env x).toNat]? = some f):boundT c x=f.bound:=by
 unfold boundT boundV;rw [if_neg (by omega),hf];rfl
abbrev q1Qx:List Nat:=[0,1,2,3,4,5,6,7,8,9,10,11,12,13,14,15,16,19,24,35,50,61,82,117,133,138,147,151,164,174,199,205,212,240]
theorem ok_Type16 (c:TCtx)(hc:c.Sm):∀ e:Ex,e.Sm→CallOK Tryz.prog 73 [tcV c,exV e] (trV (typeE c e)):=by
 intro e
 induction e using Ex.induct with | _ e ih=>?_
 intro he
 have hnoE:=ok_no16 e.pos
 have hF:∀ k,k∈e.kids→∀ w:Ty,w.Sm→CallOK Tryz.prog 136 [tcV c,exV k,tyV w] (rsV (fitsT c w k (typeE c k))):=fun k hk w hw =>
  ok_Fits16 c hc k (ih k hk (he.kids.2 k hk)) (typeE_Sm hc k (he.kids.2 k hk)) w hw
 have hkl:=he.kids.1
 have hvl:=hc.vl
 rw [typeE_eq]
 generalize hR:typeN c e (e.kids.map (typeE c))=R
 unfold typeN at hR
 refine cB Tryz.func73 ?_
 refine sR q1Qx ?_
 (refine AWp.freeze 2 rfl rfl ?_;refine AWp.freeze 3 rfl rfl (wk [(2,.dptr (tcC c) 0),(3,.dptr (exC e) 0),(4,.box 4 0),(5,.box 5 0)] [(4,ty0C),(5,rs0)] ?_))
 by_cases k1:e.kind=1
 ·rw [if_pos k1] at hR
  have d1:=decide_eq_true k1
  refine sK fun K1 u1=>?_
  (refine sQ q1Qx fun K z=>?_;simp -implicitDefEqProofs only [EV,forall_const,implies_true,Nat.reduceAdd,Nat.reduceEqDiff,Nat.reduceBEq,Nat.reduceLeDiff,Nat.reduceSub,Nat.reduceMul,Int.reduceEq,Int.reduceLT,Int.reduceLE,Int.reduceSub,Int.reduceAdd,Int.reduceToNat,reduceCtorEq,Int.reduceNeg,TF3,TF4,TF9,TF25,TF26,TF28,TF30,TF49,TF50,TF75,TF96,TF124,TF147,tcC,d1];apply z;clear z K)
  refine tI ?_
  refine sK fun K2 u2=>?_
  (refine sQ q1Qx fun K z=>?_;simp -implicitDefEqProofs only [EV,forall_const,implies_true,Nat.reduceAdd,Nat.reduceEqDiff,Nat.reduceBEq,Nat.reduceLeDiff,Nat.reduceSub,Nat.reduceMul,Int.reduceEq,Int.reduceLT,Int.reduceLE,Int.reduceSub,Int.reduceAdd,Int.reduceToNat,reduceCtorEq,Int.reduceNeg,TF3,TF4,TF9,TF25,TF26,TF28,TF30,TF49,TF50,TF75,TF96,TF124,TF147,tcC];apply z;clear z K)
  refine AWp.block (AWp.forIdx c.vars (X:=Unit) (fun j _=>[(2,.dptr (tcC c) 0),(3,.dptr (exC e) 0),(4,.box 4 0),(5,.box 5 0),(6,intV j)]) (fun _ _=>[(4,ty0C),(5,rs0)])
   (fun j _=>∀ y,y∈c.vars.take j→(fun f:Param=>decide (f.name=e.name)) y=false) () (by simp) (by simp [sle,vle,sget,tcC,exC]) (by simp [ble,bget,exC,tyC,foC,paC,siC,deC,prC]) ?_ ?_)
  rotate_left
  ·intro j _ d hd hmem dp tk hlt hI
   refine sK fun K3 u3=>?_
   (refine sQ q1Qx fun K z=>?_;simp -implicitDefEqProofs only [EV,forall_const,implies_true,Nat.reduceAdd,Nat.reduceEqDiff,Nat.reduceBEq,Nat.reduceLeDiff,Nat.reduceSub,Nat.reduceMul,Int.reduceEq,Int.reduceLT,Int.reduceLE,Int.reduceSub,Int.reduceAdd,Int.reduceToNat,reduceCtorEq,Int.reduceNeg,TF3,TF4,TF9,TF25,TF26,TF28,TF30,TF49,TF50,TF75,TF96,TF124,TF147,tcC,hlt];apply z;clear z K)
   refine gI u3 ?_
   clear u3 K3
   refine sK fun K3 u3=>?_
   refine AWp.block ?_
   by_cases hn:d.name=e.name
   ·have hix:fieldI c.vars e.name=j:=idxF_some hd (by simp [hn]) hI
    have hj0:¬ (j:Int) < 0:=by omega
    obtain rfl:R=(d.type,res0):=by
     rw [← hR];unfold varTy;rw [hix,Int.toNat_natCast,hd];simp only;rw [if_neg hj0]
    have dn:=decide_eq_true hn
    (refine sG q1Qx [] 8 [] fun K z=>?_;simp -implicitDefEqProofs only [EV,forall_const,implies_true,Nat.reduceAdd,Nat.reduceEqDiff,Nat.reduceBEq,Nat.reduceLeDiff,Nat.reduceSub,Nat.reduceMul,Int.reduceEq,Int.reduceLT,Int.reduceLE,Int.reduceSub,Int.reduceAdd,Int.reduceToNat,reduceCtorEq,Int.reduceNeg,TF3,TF4,TF9,TF25,TF26,TF28,TF30,TF49,TF50,TF75,TF96,TF124,TF147,tcC,dn];refine⟨by omega,_,paR_get hd,rfl,?_⟩;(try simp -implicitDefEqProofs only [EV,forall_const,implies_true,Nat.reduceAdd,Nat.reduceEqDiff,Nat.reduceBEq,Nat.reduceLeDiff,Nat.reduceSub,Nat.reduceMul,Int.reduceEq,Int.reduceLT,Int.reduceLE,Int.reduceSub,Int.reduceAdd,Int.reduceToNat,reduceCtorEq,Int.reduceNeg,TF3,TF4,TF9,TF25,TF26,TF28,TF30,TF49,TF50,TF75,TF96,TF124,TF147,tcC,dn]);apply z;clear z K)
    refine AWp.condT rfl ?_
    (refine sQ q1Qx fun K z=>?_;simp -implicitDefEqProofs only [EV,forall_const,implies_true,Nat.reduceAdd,Nat.reduceEqDiff,Nat.reduceBEq,Nat.reduceLeDiff,Nat.reduceSub,Nat.reduceMul,Int.reduceEq,Int.reduceLT,Int.reduceLE,Int.reduceSub,Int.reduceAdd,Int.reduceToNat,reduceCtorEq,Int.reduceNeg,TF3,TF4,TF9,TF25,TF26,TF28,TF30,TF49,TF50,TF75,TF96,TF124,TF147,tcC];refine⟨by omega,_,paR_get hd,rfl,?_⟩;(try simp -implicitDefEqProofs only [EV,forall_const,implies_true,Nat.reduceAdd,Nat.reduceEqDiff,Nat.reduceBEq,Nat.reduceLeDiff,Nat.reduceSub,Nat.reduceMul,Int.reduceEq,Int.reduceLT,Int.reduceLE,Int.reduceSub,Int.reduceAdd,Int.reduceToNat,reduceCtorEq,Int.reduceNeg,TF3,TF4,TF9,TF25,TF26,TF28,TF30,TF49,TF50,TF75,TF96,TF124,TF147,tcC]);apply z;clear z K)
    exact aR
   ·(refine sG q1Qx [] 8 [] fun K z=>?_;simp -implicitDefEqProofs only [EV,forall_const,implies_true,Nat.reduceAdd,Nat.reduceEqDiff,Nat.reduceBEq,Nat.reduceLeDiff,Nat.reduceSub,Nat.reduceMul,Int.reduceEq,Int.reduceLT,Int.reduceLE,Int.reduceSub,Int.reduceAdd,Int.reduceToNat,reduceCtorEq,Int.reduceNeg,TF3,TF4,TF9,TF25,TF26,TF28,TF30,TF49,TF50,TF75,TF96,TF124,TF147,tcC,hn];refine⟨by omega,_,paR_get hd,rfl,?_⟩;(try simp -implicitDefEqProofs only [EV,forall_const,implies_true,Nat.reduceAdd,Nat.reduceEqDiff,Nat.reduceBEq,Nat.reduceLeDiff,Nat.reduceSub,Nat.reduceMul,Int.reduceEq,Int.reduceLT,Int.reduceLE,Int.reduceSub,Int.reduceAdd,Int.reduceToNat,reduceCtorEq,Int.reduceNeg,TF3,TF4,TF9,TF25,TF26,TF28,TF30,TF49,TF50,TF75,TF96,TF124,TF147,tcC,hn]);apply z;clear z K)
    refine AWp.condF rfl (AWp.skip (u3 _ _ ?_))
    clear u3 K3
    (refine lQ q1Qx fun K z=>?_;simp -implicitDefEqProofs only [EV,forall_const,implies_true,Nat.reduceAdd,Nat.reduceEqDiff,Nat.reduceBEq,Nat.reduceLeDiff,Nat.reduceSub,Nat.reduceMul,Int.reduceEq,Int.reduceLT,Int.reduceLE,Int.reduceSub,Int.reduceAdd,Int.reduceToNat,reduceCtorEq,Int.reduceNeg,TF3,TF4,TF9,TF25,TF26,TF28,TF30,TF49,TF50,TF75,TF96,TF124,TF147,tcC];refine⟨by first | (unfold InR;omega) | (simp only [InR,sm,lim] at *;omega),?_⟩;(try simp -implicitDefEqProofs only [EV,forall_const,implies_true,Nat.reduceAdd,Nat.reduceEqDiff,Nat.reduceBEq,Nat.reduceLeDiff,Nat.reduceSub,Nat.reduceMul,Int.reduceEq,Int.reduceLT,Int.reduceLE,Int.reduceSub,Int.reduceAdd,Int.reduceToNat,reduceCtorEq,Int.reduceNeg,TF3,TF4,TF9,TF25,TF26,TF28,TF30,TF49,TF50,TF75,TF96,TF124,TF147,tcC]);apply z;clear z K;try simp only [thenA,blockA,if_true])
    refine⟨(),?_,(by simp [sle,vle,sget,tcC,exC]),(by simp [ble,bget,exC,tyC,foC,paC,siC,deC,prC])⟩
    intro y hy
    rw [tk,List.mem_append] at hy
    rcases hy with hy | hy
    ·exact hI y hy
    ·simp only [List.mem_singleton] at hy;subst hy;exact decide_eq_false hn
  intro _ hI
  rw [List.take_length] at hI
  obtain rfl:R=noT e.pos:=by rw [← hR];exact varTy_neg (idxF_none hI)
  refine sK fun K3 u3=>?_
  (refine sQ q1Qx fun K z=>?_;simp -implicitDefEqProofs only [EV,forall_const,implies_true,Nat.reduceAdd,Nat.reduceEqDiff,Nat.reduceBEq,Nat.reduceLeDiff,Nat.reduceSub,Nat.reduceMul,Int.reduceEq,Int.reduceLT,Int.reduceLE,Int.reduceSub,Int.reduceAdd,Int.reduceToNat,reduceCtorEq,Int.reduceNeg,TF3,TF4,TF9,TF25,TF26,TF28,TF30,TF49,TF50,TF75,TF96,TF124,TF147,tcC,Int.lt_irrefl];apply z;clear z K)
  refine AWp.stopK rfl ?_
  simp only [thenA,blockA,if_true]
  refine u2 _ _ ?_
  (refine sQ q1Qx fun K z=>?_;simp -implicitDefEqProofs only [EV,forall_const,implies_true,Nat.reduceAdd,Nat.reduceEqDiff,Nat.reduceBEq,Nat.reduceLeDiff,Nat.reduceSub,Nat.reduceMul,Int.reduceEq,Int.reduceLT,Int.reduceLE,Int.reduceSub,Int.reduceAdd,Int.reduceToNat,reduceCtorEq,Int.reduceNeg,TF3,TF4,TF9,TF25,TF26,TF28,TF30,TF49,TF50,TF75,TF96,TF124,TF147,tcC];refine⟨_,.inl ⟨_,rfl,hnoE,rfl⟩,?_⟩;(try simp -implicitDefEqProofs only [EV,forall_const,implies_true,Nat.reduceAdd,Nat.reduceEqDiff,Nat.reduceBEq,Nat.reduceLeDiff,Nat.reduceSub,Nat.reduceMul,Int.reduceEq,Int.reduceLT,Int.reduceLE,Int.reduceSub,Int.reduceAdd,Int.reduceToNat,reduceCtorEq,Int.reduceNeg,TF3,TF4,TF9,TF25,TF26,TF28,TF30,TF49,TF50,TF75,TF96,TF124,TF147,tcC]);apply z;clear z K)
  exact aR
 rw [if_neg k1] at hR
 refine sK fun K1 u1=>?_
 (refine sQ q1Qx fun K z=>?_;simp -implicitDefEqProofs only [EV,forall_const,implies_true,Nat.reduceAdd,Nat.reduceEqDiff,Nat.reduceBEq,Nat.reduceLeDiff,Nat.reduceSub,Nat.reduceMul,Int.reduceEq,Int.reduceLT,Int.reduceLE,Int.reduceSub,Int.reduceAdd,Int.reduceToNat,reduceCtorEq,Int.reduceNeg,TF3,TF4,TF9,TF25,TF26,TF28,TF30,TF49,TF50,TF75,TF96,TF124,TF147,tcC,k1];apply z;clear z K)
 refine kI u1 ?_
 clear u1 K1
 by_cases k3:e.kind=3
 ·rw [if_pos k3] at hR
  unfold litT at hR
  have d3:=decide_eq_true k3
  have hck:=ok_RCheck c.p hc.p c.env hc.el hc.env e.type he.type
  have hst:=ok_isStruct16 c hc e.type
  refine sK fun K1 u1=>?_
  (refine sQ q1Qx fun K z=>?_;simp -implicitDefEqProofs only [EV,forall_const,implies_true,Nat.reduceAdd,Nat.reduceEqDiff,Nat.reduceBEq,Nat.reduceLeDiff,Nat.reduceSub,Nat.reduceMul,Int.reduceEq,Int.reduceLT,Int.reduceLE,Int.reduceSub,Int.reduceAdd,Int.reduceToNat,reduceCtorEq,Int.reduceNeg,TF3,TF4,TF9,TF25,TF26,TF28,TF30,TF49,TF50,TF75,TF96,TF124,TF147,tcC,d3];apply z;clear z K)
  refine tI ?_
  cases ho:chk c.p c.env e.type with
  | some q =>
   rw [ho] at hck hR
   simp only [chkV] at hck hR
   have hnoQ:=ok_no16 q
   subst hR
   (refine sQ q1Qx fun K z=>?_;simp -implicitDefEqProofs only [EV,forall_const,implies_true,Nat.reduceAdd,Nat.reduceEqDiff,Nat.reduceBEq,Nat.reduceLeDiff,Nat.reduceSub,Nat.reduceMul,Int.reduceEq,Int.reduceLT,Int.reduceLE,Int.reduceSub,Int.reduceAdd,Int.reduceToNat,reduceCtorEq,Int.reduceNeg,TF3,TF4,TF9,TF25,TF26,TF28,TF30,TF49,TF50,TF75,TF96,TF124,TF147,tcC];refine⟨_,.inl ⟨_,rfl,hck,rfl⟩,?_⟩;(try simp -implicitDefEqProofs only [EV,forall_const,implies_true,Nat.reduceAdd,Nat.reduceEqDiff,Nat.reduceBEq,Nat.reduceLeDiff,Nat.reduceSub,Nat.reduceMul,Int.reduceEq,Int.reduceLT,Int.reduceLE,Int.reduceSub,Int.reduceAdd,Int.reduceToNat,reduceCtorEq,Int.reduceNeg,TF3,TF4,TF9,TF25,TF26,TF28,TF30,TF49,TF50,TF75,TF96,TF124,TF147,tcC]);apply z;clear z K)
   refine sK fun K2 u2=>?_
   (refine sQ q1Qx fun K z=>?_;simp -implicitDefEqProofs only [EV,forall_const,implies_true,Nat.reduceAdd,Nat.reduceEqDiff,Nat.reduceBEq,Nat.reduceLeDiff,Nat.reduceSub,Nat.reduceMul,Int.reduceEq,Int.reduceLT,Int.reduceLE,Int.reduceSub,Int.reduceAdd,Int.reduceToNat,reduceCtorEq,Int.reduceNeg,TF3,TF4,TF9,TF25,TF26,TF28,TF30,TF49,TF50,TF75,TF96,TF124,TF147,tcC];apply z;clear z K)
   refine tI ?_
   (refine sQ q1Qx fun K z=>?_;simp -implicitDefEqProofs only [EV,forall_const,implies_true,Nat.reduceAdd,Nat.reduceEqDiff,Nat.reduceBEq,Nat.reduceLeDiff,Nat.reduceSub,Nat.reduceMul,Int.reduceEq,Int.reduceLT,Int.reduceLE,Int.reduceSub,Int.reduceAdd,Int.reduceToNat,reduceCtorEq,Int.reduceNeg,TF3,TF4,TF9,TF25,TF26,TF28,TF30,TF49,TF50,TF75,TF96,TF124,TF147,tcC];refine⟨_,.inl ⟨_,rfl,hnoQ,rfl⟩,?_⟩;(try simp -implicitDefEqProofs only [EV,forall_const,implies_true,Nat.reduceAdd,Nat.reduceEqDiff,Nat.reduceBEq,Nat.reduceLeDiff,Nat.reduceSub,Nat.reduceMul,Int.reduceEq,Int.reduceLT,Int.reduceLE,Int.reduceSub,Int.reduceAdd,Int.reduceToNat,reduceCtorEq,Int.reduceNeg,TF3,TF4,TF9,TF25,TF26,TF28,TF30,TF49,TF50,TF75,TF96,TF124,TF147,tcC]);apply z;clear z K)
   exact aR
  | none =>
   rw [ho] at hck hR
   simp only [chkV] at hck hR
   (refine sQ q1Qx fun K z=>?_;simp -implicitDefEqProofs only [EV,forall_const,implies_true,Nat.reduceAdd,Nat.reduceEqDiff,Nat.reduceBEq,Nat.reduceLeDiff,Nat.reduceSub,Nat.reduceMul,Int.reduceEq,Int.reduceLT,Int.reduceLE,Int.reduceSub,Int.reduceAdd,Int.reduceToNat,reduceCtorEq,Int.reduceNeg,TF3,TF4,TF9,TF25,TF26,TF28,TF30,TF49,TF50,TF75,TF96,TF124,TF147,tcC];refine⟨_,.inl ⟨_,rfl,hck,rfl⟩,?_⟩;(try simp -implicitDefEqProofs only [EV,forall_const,implies_true,Nat.reduceAdd,Nat.reduceEqDiff,Nat.reduceBEq,Nat.reduceLeDiff,Nat.reduceSub,Nat.reduceMul,Int.reduceEq,Int.reduceLT,Int.reduceLE,Int.reduceSub,Int.reduceAdd,Int.reduceToNat,reduceCtorEq,Int.reduceNeg,TF3,TF4,TF9,TF25,TF26,TF28,TF30,TF49,TF50,TF75,TF96,TF124,TF147,tcC]);apply z;clear z K)
   refine sK fun K2 u2=>?_
   (refine sQ q1Qx fun K z=>?_;simp -implicitDefEqProofs only [EV,forall_const,implies_true,Nat.reduceAdd,Nat.reduceEqDiff,Nat.reduceBEq,Nat.reduceLeDiff,Nat.reduceSub,Nat.reduceMul,Int.reduceEq,Int.reduceLT,Int.reduceLE,Int.reduceSub,Int.reduceAdd,Int.reduceToNat,reduceCtorEq,Int.reduceNeg,TF3,TF4,TF9,TF25,TF26,TF28,TF30,TF49,TF50,TF75,TF96,TF124,TF147,tcC];apply z;clear z K)
   refine kI u2 ?_
   clear u2 K2
   rcases Bool.eq_false_or_eq_true (structT c e.type) with hs | hs
   rotate_left
   ·rw [if_pos (.inl hs)] at hR
    subst hR
    rw [hs] at hst
    refine sK fun K2 u2=>?_
    (refine sG q1Qx [] 15 [] fun K z=>?_;simp -implicitDefEqProofs only [EV,forall_const,implies_true,Nat.reduceAdd,Nat.reduceEqDiff,Nat.reduceBEq,Nat.reduceLeDiff,Nat.reduceSub,Nat.reduceMul,Int.reduceEq,Int.reduceLT,Int.reduceLE,Int.reduceSub,Int.reduceAdd,Int.reduceToNat,reduceCtorEq,Int.reduceNeg,TF3,TF4,TF9,TF25,TF26,TF28,TF30,TF49,TF50,TF75,TF96,TF124,TF147,tcC];refine⟨_,.inl ⟨_,rfl,hst,rfl⟩,?_⟩;(try simp -implicitDefEqProofs only [EV,forall_const,implies_true,Nat.reduceAdd,Nat.reduceEqDiff,Nat.reduceBEq,Nat.reduceLeDiff,Nat.reduceSub,Nat.reduceMul,Int.reduceEq,Int.reduceLT,Int.reduceLE,Int.reduceSub,Int.reduceAdd,Int.reduceToNat,reduceCtorEq,Int.reduceNeg,TF3,TF4,TF9,TF25,TF26,TF28,TF30,TF49,TF50,TF75,TF96,TF124,TF147,tcC]);apply z;clear z K)
    refine tI ?_
    (refine sQ q1Qx fun K z=>?_;simp -implicitDefEqProofs only [EV,forall_const,implies_true,Nat.reduceAdd,Nat.reduceEqDiff,Nat.reduceBEq,Nat.reduceLeDiff,Nat.reduceSub,Nat.reduceMul,Int.reduceEq,Int.reduceLT,Int.reduceLE,Int.reduceSub,Int.reduceAdd,Int.reduceToNat,reduceCtorEq,Int.reduceNeg,TF3,TF4,TF9,TF25,TF26,TF28,TF30,TF49,TF50,TF75,TF96,TF124,TF147,tcC];refine⟨_,.inl ⟨_,rfl,hnoE,rfl⟩,?_⟩;(try simp -implicitDefEqProofs only [EV,forall_const,implies_true,Nat.reduceAdd,Nat.reduceEqDiff,Nat.reduceBEq,Nat.reduceLeDiff,Nat.reduceSub,Nat.reduceMul,Int.reduceEq,Int.reduceLT,Int.reduceLE,Int.reduceSub,Int.reduceAdd,Int.reduceToNat,reduceCtorEq,Int.reduceNeg,TF3,TF4,TF9,TF25,TF26,TF28,TF30,TF49,TF50,TF75,TF96,TF124,TF147,tcC]);apply z;clear z K)
    exact aR
   have hfi:=ok_RFields c.p hc.p e.type he.type (structT_inst hs)
   rw [hs] at hst
   by_cases hl:(fieldsT c.p e.type).length=e.kids.length
   rotate_left
   ·rw [if_pos (.inr hl)] at hR
    subst hR
    have hl':¬ ((fieldsT c.p e.type).length:Int)=(e.kids.length:Int):=by omega
    refine sK fun K2 u2=>?_
    (refine sG q1Qx [] 15 [] fun K z=>?_;simp -implicitDefEqProofs only [EV,forall_const,implies_true,Nat.reduceAdd,Nat.reduceEqDiff,Nat.reduceBEq,Nat.reduceLeDiff,Nat.reduceSub,Nat.reduceMul,Int.reduceEq,Int.reduceLT,Int.reduceLE,Int.reduceSub,Int.reduceAdd,Int.reduceToNat,reduceCtorEq,Int.reduceNeg,TF3,TF4,TF9,TF25,TF26,TF28,TF30,TF49,TF50,TF75,TF96,TF124,TF147,tcC,hl',TF50,TF26];refine⟨_,.inl ⟨_,rfl,hst,rfl⟩,?_⟩;(try simp -implicitDefEqProofs only [EV,forall_const,implies_true,Nat.reduceAdd,Nat.reduceEqDiff,Nat.reduceBEq,Nat.reduceLeDiff,Nat.reduceSub,Nat.reduceMul,Int.reduceEq,Int.reduceLT,Int.reduceLE,Int.reduceSub,Int.reduceAdd,Int.reduceToNat,reduceCtorEq,Int.reduceNeg,TF3,TF4,TF9,TF25,TF26,TF28,TF30,TF49,TF50,TF75,TF96,TF124,TF147,tcC,hl',TF50,TF26]);refine⟨_,.inl ⟨_,rfl,hfi,rfl⟩,?_⟩;(try simp -implicitDefEqProofs only [EV,forall_const,implies_true,Nat.reduceAdd,Nat.reduceEqDiff,Nat.reduceBEq,Nat.reduceLeDiff,Nat.reduceSub,Nat.reduceMul,Int.reduceEq,Int.reduceLT,Int.reduceLE,Int.reduceSub,Int.reduceAdd,Int.reduceToNat,reduceCtorEq,Int.reduceNeg,TF3,TF4,TF9,TF25,TF26,TF28,TF30,TF49,TF50,TF75,TF96,TF124,TF147,tcC,hl',TF50,TF26]);apply z;clear z K)
    refine tI ?_
    (refine sQ q1Qx fun K z=>?_;simp -implicitDefEqProofs only [EV,forall_const,implies_true,Nat.reduceAdd,Nat.reduceEqDiff,Nat.reduceBEq,Nat.reduceLeDiff,Nat.reduceSub,Nat.reduceMul,Int.reduceEq,Int.reduceLT,Int.reduceLE,Int.reduceSub,Int.reduceAdd,Int.reduceToNat,reduceCtorEq,Int.reduceNeg,TF3,TF4,TF9,TF25,TF26,TF28,TF30,TF49,TF50,TF75,TF96,TF124,TF147,tcC];refine⟨_,.inl ⟨_,rfl,hnoE,rfl⟩,?_⟩;(try simp -implicitDefEqProofs only [EV,forall_const,implies_true,Nat.reduceAdd,Nat.reduceEqDiff,Nat.reduceBEq,Nat.reduceLeDiff,Nat.reduceSub,Nat.reduceMul,Int.reduceEq,Int.reduceLT,Int.reduceLE,Int.reduceSub,Int.reduceAdd,Int.reduceToNat,reduceCtorEq,Int.reduceNeg,TF3,TF4,TF9,TF25,TF26,TF28,TF30,TF49,TF50,TF75,TF96,TF124,TF147,tcC]);apply z;clear z K)
    exact aR
   rw [if_neg (by rw [hs];simp [hl])] at hR
   have hl':((fieldsT c.p e.type).length:Int)=(e.kids.length:Int):=by omega
   have hki:=ok_kids16 c e.kids hkl (fieldsT c.p e.type) hl (fieldsT_Sm hc.p he.type) [] [] (by simp) hF
   have hmm:((fieldsT c.p e.type).map fun f=>f.type.subst [] [])=(fieldsT c.p e.type).map (·.type):=List.map_congr_left fun f _=>subst_nil f.type
   rw [hmm] at hki
   subst hR
   generalize kidsT c ((fieldsT c.p e.type).map (·.type)) e.kids (e.kids.map (typeE c))=r at *
   refine sK fun K2 u2=>?_
   (refine sG q1Qx [] 15 [] fun K z=>?_;simp -implicitDefEqProofs only [EV,forall_const,implies_true,Nat.reduceAdd,Nat.reduceEqDiff,Nat.reduceBEq,Nat.reduceLeDiff,Nat.reduceSub,Nat.reduceMul,Int.reduceEq,Int.reduceLT,Int.reduceLE,Int.reduceSub,Int.reduceAdd,Int.reduceToNat,reduceCtorEq,Int.reduceNeg,TF3,TF4,TF9,TF25,TF26,TF28,TF30,TF49,TF50,TF75,TF96,TF124,TF147,tcC,hl',TF50,TF26];refine⟨_,.inl ⟨_,rfl,hst,rfl⟩,?_⟩;(try simp -implicitDefEqProofs only [EV,forall_const,implies_true,Nat.reduceAdd,Nat.reduceEqDiff,Nat.reduceBEq,Nat.reduceLeDiff,Nat.reduceSub,Nat.reduceMul,Int.reduceEq,Int.reduceLT,Int.reduceLE,Int.reduceSub,Int.reduceAdd,Int.reduceToNat,reduceCtorEq,Int.reduceNeg,TF3,TF4,TF9,TF25,TF26,TF28,TF30,TF49,TF50,TF75,TF96,TF124,TF147,tcC,hl',TF50,TF26]);refine⟨_,.inl ⟨_,rfl,hfi,rfl⟩,?_⟩;(try simp -implicitDefEqProofs only [EV,forall_const,implies_true,Nat.reduceAdd,Nat.reduceEqDiff,Nat.reduceBEq,Nat.reduceLeDiff,Nat.reduceSub,Nat.reduceMul,Int.reduceEq,Int.reduceLT,Int.reduceLE,Int.reduceSub,Int.reduceAdd,Int.reduceToNat,reduceCtorEq,Int.reduceNeg,TF3,TF4,TF9,TF25,TF26,TF28,TF30,TF49,TF50,TF75,TF96,TF124,TF147,tcC,hl',TF50,TF26]);apply z;clear z K)
   refine kI u2 ?_
   clear u2 K2
   (refine sG q1Qx [] 11 [] fun K z=>?_;simp -implicitDefEqProofs only [EV,forall_const,implies_true,Nat.reduceAdd,Nat.reduceEqDiff,Nat.reduceBEq,Nat.reduceLeDiff,Nat.reduceSub,Nat.reduceMul,Int.reduceEq,Int.reduceLT,Int.reduceLE,Int.reduceSub,Int.reduceAdd,Int.reduceToNat,reduceCtorEq,Int.reduceNeg,TF3,TF4,TF9,TF25,TF26,TF28,TF30,TF49,TF50,TF75,TF96,TF124,TF147,tcC];refine⟨_,.inl ⟨_,rfl,hfi,rfl⟩,?_⟩;(try simp -implicitDefEqProofs only [EV,forall_const,implies_true,Nat.reduceAdd,Nat.reduceEqDiff,Nat.reduceBEq,Nat.reduceLeDiff,Nat.reduceSub,Nat.reduceMul,Int.reduceEq,Int.reduceLT,Int.reduceLE,Int.reduceSub,Int.reduceAdd,Int.reduceToNat,reduceCtorEq,Int.reduceNeg,TF3,TF4,TF9,TF25,TF26,TF28,TF30,TF49,TF50,TF75,TF96,TF124,TF147,tcC]);refine⟨_,.inl ⟨_,rfl,hki,rfl⟩,?_⟩;(try simp -implicitDefEqProofs only [EV,forall_const,implies_true,Nat.reduceAdd,Nat.reduceEqDiff,Nat.reduceBEq,Nat.reduceLeDiff,Nat.reduceSub,Nat.reduceMul,Int.reduceEq,Int.reduceLT,Int.reduceLE,Int.reduceSub,Int.reduceAdd,Int.reduceToNat,reduceCtorEq,Int.reduceNeg,TF3,TF4,TF9,TF25,TF26,TF28,TF30,TF49,TF50,TF75,TF96,TF124,TF147,tcC]);apply z;clear z K)
   exact aR
 rw [if_neg k3] at hR
 refine sK fun K1 u1=>?_
 (refine sQ q1Qx fun K z=>?_;simp -implicitDefEqProofs only [EV,forall_const,implies_true,Nat.reduceAdd,Nat.reduceEqDiff,Nat.reduceBEq,Nat.reduceLeDiff,Nat.reduceSub,Nat.reduceMul,Int.reduceEq,Int.reduceLT,Int.reduceLE,Int.reduceSub,Int.reduceAdd,Int.reduceToNat,reduceCtorEq,Int.reduceNeg,TF3,TF4,TF9,TF25,TF26,TF28,TF30,TF49,TF50,TF75,TF96,TF124,TF147,tcC,k3];apply z;clear z K)
 refine kI u1 ?_
 clear u1 K1
 by_cases k2:e.kind≠2∧e.kind≠4∧e.kind≠5
 ·rw [if_pos k2] at hR
  subst hR
  obtain⟨n2,n4,n5⟩:=k2
  refine sK fun K1 u1=>?_
  (refine sQ q1Qx fun K z=>?_;simp -implicitDefEqProofs only [EV,forall_const,implies_true,Nat.reduceAdd,Nat.reduceEqDiff,Nat.reduceBEq,Nat.reduceLeDiff,Nat.reduceSub,Nat.reduceMul,Int.reduceEq,Int.reduceLT,Int.reduceLE,Int.reduceSub,Int.reduceAdd,Int.reduceToNat,reduceCtorEq,Int.reduceNeg,TF3,TF4,TF9,TF25,TF26,TF28,TF30,TF49,TF50,TF75,TF96,TF124,TF147,tcC,n2,n4,n5];apply z;clear z K)
  refine tI ?_
  (refine sQ q1Qx fun K z=>?_;simp -implicitDefEqProofs only [EV,forall_const,implies_true,Nat.reduceAdd,Nat.reduceEqDiff,Nat.reduceBEq,Nat.reduceLeDiff,Nat.reduceSub,Nat.reduceMul,Int.reduceEq,Int.reduceLT,Int.reduceLE,Int.reduceSub,Int.reduceAdd,Int.reduceToNat,reduceCtorEq,Int.reduceNeg,TF3,TF4,TF9,TF25,TF26,TF28,TF30,TF49,TF50,TF75,TF96,TF124,TF147,tcC];refine⟨_,.inl ⟨_,rfl,hnoE,rfl⟩,?_⟩;(try simp -implicitDefEqProofs only [EV,forall_const,implies_true,Nat.reduceAdd,Nat.reduceEqDiff,Nat.reduceBEq,Nat.reduceLeDiff,Nat.reduceSub,Nat.reduceMul,Int.reduceEq,Int.reduceLT,Int.reduceLE,Int.reduceSub,Int.reduceAdd,Int.reduceToNat,reduceCtorEq,Int.reduceNeg,TF3,TF4,TF9,TF25,TF26,TF28,TF30,TF49,TF50,TF75,TF96,TF124,TF147,tcC]);apply z;clear z K)
  exact aR
 rw [if_neg k2] at hR
 have kk:e.kind=2∨e.kind=4∨e.kind=5:=by omega
 have hcs:e.kids=[]∨∃ v vs,e.kids=v::vs:=by
  cases e.kids with
  | nil=>exact .inl rfl
  | cons v vs=>exact .inr ⟨v,vs,rfl⟩
 rcases hcs with hks | ⟨v,vs,hks⟩
 ·rw [hks] at hR
  simp only [List.map_nil] at hR
  subst hR
  have hl0:(e.kids.length:Int)=0:=by rw [hks];rfl
  rcases kk with k | k | k
  ·have e2:=decide_eq_true k
   refine sK fun K1 u1=>?_
   (refine sQ q1Qx fun K z=>?_;simp -implicitDefEqProofs only [EV,forall_const,implies_true,Nat.reduceAdd,Nat.reduceEqDiff,Nat.reduceBEq,Nat.reduceLeDiff,Nat.reduceSub,Nat.reduceMul,Int.reduceEq,Int.reduceLT,Int.reduceLE,Int.reduceSub,Int.reduceAdd,Int.reduceToNat,reduceCtorEq,Int.reduceNeg,TF3,TF4,TF9,TF25,TF26,TF28,TF30,TF49,TF50,TF75,TF96,TF124,TF147,tcC,decide_not,e2,hl0];apply z;clear z K)
   refine tI ?_
   (refine sQ q1Qx fun K z=>?_;simp -implicitDefEqProofs only [EV,forall_const,implies_true,Nat.reduceAdd,Nat.reduceEqDiff,Nat.reduceBEq,Nat.reduceLeDiff,Nat.reduceSub,Nat.reduceMul,Int.reduceEq,Int.reduceLT,Int.reduceLE,Int.reduceSub,Int.reduceAdd,Int.reduceToNat,reduceCtorEq,Int.reduceNeg,TF3,TF4,TF9,TF25,TF26,TF28,TF30,TF49,TF50,TF75,TF96,TF124,TF147,tcC];refine⟨_,.inl ⟨_,rfl,hnoE,rfl⟩,?_⟩;(try simp -implicitDefEqProofs only [EV,forall_const,implies_true,Nat.reduceAdd,Nat.reduceEqDiff,Nat.reduceBEq,Nat.reduceLeDiff,Nat.reduceSub,Nat.reduceMul,Int.reduceEq,Int.reduceLT,Int.reduceLE,Int.reduceSub,Int.reduceAdd,Int.reduceToNat,reduceCtorEq,Int.reduceNeg,TF3,TF4,TF9,TF25,TF26,TF28,TF30,TF49,TF50,TF75,TF96,TF124,TF147,tcC]);apply z;clear z K)
   exact aR
  ·have n2:¬ e.kind=2:=by omega
   have e4:=decide_eq_true k
   refine sK fun K1 u1=>?_
   (refine sQ q1Qx fun K z=>?_;simp -implicitDefEqProofs only [EV,forall_const,implies_true,Nat.reduceAdd,Nat.reduceEqDiff,Nat.reduceBEq,Nat.reduceLeDiff,Nat.reduceSub,Nat.reduceMul,Int.reduceEq,Int.reduceLT,Int.reduceLE,Int.reduceSub,Int.reduceAdd,Int.reduceToNat,reduceCtorEq,Int.reduceNeg,TF3,TF4,TF9,TF25,TF26,TF28,TF30,TF49,TF50,TF75,TF96,TF124,TF147,tcC,decide_not,n2,e4,hl0];apply z;clear z K)
   refine tI ?_
   (refine sQ q1Qx fun K z=>?_;simp -implicitDefEqProofs only [EV,forall_const,implies_true,Nat.reduceAdd,Nat.reduceEqDiff,Nat.reduceBEq,Nat.reduceLeDiff,Nat.reduceSub,Nat.reduceMul,Int.reduceEq,Int.reduceLT,Int.reduceLE,Int.reduceSub,Int.reduceAdd,Int.reduceToNat,reduceCtorEq,Int.reduceNeg,TF3,TF4,TF9,TF25,TF26,TF28,TF30,TF49,TF50,TF75,TF96,TF124,TF147,tcC];refine⟨_,.inl ⟨_,rfl,hnoE,rfl⟩,?_⟩;(try simp -implicitDefEqProofs only [EV,forall_const,implies_true,Nat.reduceAdd,Nat.reduceEqDiff,Nat.reduceBEq,Nat.reduceLeDiff,Nat.reduceSub,Nat.reduceMul,Int.reduceEq,Int.reduceLT,Int.reduceLE,Int.reduceSub,Int.reduceAdd,Int.reduceToNat,reduceCtorEq,Int.reduceNeg,TF3,TF4,TF9,TF25,TF26,TF28,TF30,TF49,TF50,TF75,TF96,TF124,TF147,tcC]);apply z;clear z K)
   exact aR
  ·have n2:¬ e.kind=2:=by omega
   have n4:¬ e.kind=4:=by omega
   have e5:=decide_eq_true k
   refine sK fun K1 u1=>?_
   (refine sQ q1Qx fun K z=>?_;simp -implicitDefEqProofs only [EV,forall_const,implies_true,Nat.reduceAdd,Nat.reduceEqDiff,Nat.reduceBEq,Nat.reduceLeDiff,Nat.reduceSub,Nat.reduceMul,Int.reduceEq,Int.reduceLT,Int.reduceLE,Int.reduceSub,Int.reduceAdd,Int.reduceToNat,reduceCtorEq,Int.reduceNeg,TF3,TF4,TF9,TF25,TF26,TF28,TF30,TF49,TF50,TF75,TF96,TF124,TF147,tcC,decide_not,n2,n4,e5,hl0];apply z;clear z K)
   refine tI ?_
   (refine sQ q1Qx fun K z=>?_;simp -implicitDefEqProofs only [EV,forall_const,implies_true,Nat.reduceAdd,Nat.reduceEqDiff,Nat.reduceBEq,Nat.reduceLeDiff,Nat.reduceSub,Nat.reduceMul,Int.reduceEq,Int.reduceLT,Int.reduceLE,Int.reduceSub,Int.reduceAdd,Int.reduceToNat,reduceCtorEq,Int.reduceNeg,TF3,TF4,TF9,TF25,TF26,TF28,TF30,TF49,TF50,TF75,TF96,TF124,TF147,tcC];refine⟨_,.inl ⟨_,rfl,hnoE,rfl⟩,?_⟩;(try simp -implicitDefEqProofs only [EV,forall_const,implies_true,Nat.reduceAdd,Nat.reduceEqDiff,Nat.reduceBEq,Nat.reduceLeDiff,Nat.reduceSub,Nat.reduceMul,Int.reduceEq,Int.reduceLT,Int.reduceLE,Int.reduceSub,Int.reduceAdd,Int.reduceToNat,reduceCtorEq,Int.reduceNeg,TF3,TF4,TF9,TF25,TF26,TF28,TF30,TF49,TF50,TF75,TF96,TF124,TF147,tcC]);apply z;clear z K)
   exact aR
 ·have hl0:¬ (e.kids.length:Int)=0:=by rw [hks];simp only [List.length_cons];omega
  have h0:e.kids[0]? = some v:=by rw [hks];rfl
  have hvm:v∈e.kids:=by rw [hks];simp
  have hT:=ih v hvm (he.kids.2 v hvm)
  have hzs:=typeE_Sm hc v (he.kids.2 v hvm)
  have hck:=ok_RCheck c.p hc.p c.env hc.el hc.env e.type he.type
  have hcall:=ok_call16 c hc e he (typeE c v).1 hzs (by rw [hks];simp) fun k hk w hw=>hF k (List.mem_of_mem_tail hk) w hw
  have htl:e.kids.tail=vs:=by rw [hks];rfl
  rw [htl] at hcall
  rw [hks] at hR
  clear hks
  simp only [List.map_cons] at hR
  generalize typeE c v=z at *
  obtain⟨x,⟨q,b,lg⟩⟩:=z
  simp only at hR hzs hcall
  have hfd:=fun f:Param=>ok_found16 f.type ⟨q,b,lg⟩
  rcases kk with k | k | k
  ·have e2:=decide_eq_true k
   refine sK fun K1 u1=>?_
   (refine sQ q1Qx fun K z=>?_;simp -implicitDefEqProofs only [EV,forall_const,implies_true,Nat.reduceAdd,Nat.reduceEqDiff,Nat.reduceBEq,Nat.reduceLeDiff,Nat.reduceSub,Nat.reduceMul,Int.reduceEq,Int.reduceLT,Int.reduceLE,Int.reduceSub,Int.reduceAdd,Int.reduceToNat,reduceCtorEq,Int.reduceNeg,TF3,TF4,TF9,TF25,TF26,TF28,TF30,TF49,TF50,TF75,TF96,TF124,TF147,tcC,decide_not,e2,hl0];apply z;clear z K)
   refine kI u1 ?_
   clear u1 K1
   (refine sG q1Qx [] 12 [⟨[],[],[9,10],[9,10]⟩,⟨[],[],[9,10],[9,10]⟩,⟨[],[],[9,10],[9,10]⟩,⟨[],[],[9,10],[9,10]⟩,⟨[],[],[9,10],[9,10]⟩,⟨[],[],[9,10],[9,10]⟩,⟨[],[],[9,10],[9,10]⟩,⟨[],[],[9,10],[9,10]⟩,⟨[],[],[9,10],[9,10]⟩,⟨[9],[9],[10],[10]⟩,⟨[10],[10],[9],[9]⟩,⟨[9],[],[],[]⟩] fun K z=>?_;simp -implicitDefEqProofs only [EV,forall_const,implies_true,Nat.reduceAdd,Nat.reduceEqDiff,Nat.reduceBEq,Nat.reduceLeDiff,Nat.reduceSub,Nat.reduceMul,Int.reduceEq,Int.reduceLT,Int.reduceLE,Int.reduceSub,Int.reduceAdd,Int.reduceToNat,reduceCtorEq,Int.reduceNeg,TF3,TF4,TF9,TF25,TF26,TF28,TF30,TF49,TF50,TF75,TF96,TF124,TF147,tcC];refine⟨_,exR_get h0,rfl,?_⟩;(try simp -implicitDefEqProofs only [EV,forall_const,implies_true,Nat.reduceAdd,Nat.reduceEqDiff,Nat.reduceBEq,Nat.reduceLeDiff,Nat.reduceSub,Nat.reduceMul,Int.reduceEq,Int.reduceLT,Int.reduceLE,Int.reduceSub,Int.reduceAdd,Int.reduceToNat,reduceCtorEq,Int.reduceNeg,TF3,TF4,TF9,TF25,TF26,TF28,TF30,TF49,TF50,TF75,TF96,TF124,TF147,tcC]);refine⟨_,.inl ⟨_,rfl,hT,rfl⟩,?_⟩;(try simp -implicitDefEqProofs only [EV,forall_const,implies_true,Nat.reduceAdd,Nat.reduceEqDiff,Nat.reduceBEq,Nat.reduceLeDiff,Nat.reduceSub,Nat.reduceMul,Int.reduceEq,Int.reduceLT,Int.reduceLE,Int.reduceSub,Int.reduceAdd,Int.reduceToNat,reduceCtorEq,Int.reduceNeg,TF3,TF4,TF9,TF25,TF26,TF28,TF30,TF49,TF50,TF75,TF96,TF124,TF147,tcC]);apply z;clear z K)
   (refine AWp.freeze 9 rfl rfl ?_;refine AWp.freeze 10 rfl rfl (wk [(2,.dptr (tcC c) 0),(3,.dptr (exC e) 0),(4,.box 4 0),(5,.box 5 0),(9,.dptr (tyC x) 0),(10,.dptr [.int .i64 q,.bool b,.bool lg] 0)] [(4,ty0C),(5,rs0)] ?_))
   cases b with
   | true =>
    rw [if_pos rfl] at hR
    subst hR
    refine kR q1Qx fun K1 u1=>?_
    refine tI ?_
    (refine sG q1Qx [] 3 [⟨[],[],[],[]⟩,⟨[],[],[4],[]⟩,⟨[4],[],[],[]⟩] fun K z=>?_;refine ev ?_;apply z;clear z K)
    exact aR
   | false =>
    rw [if_neg (by simp),if_pos k] at hR
    rw [hR] at hcall
    obtain⟨rt,rr⟩:=R
    refine kR q1Qx fun K1 u1=>?_
    refine kI u1 ?_
    clear u1 K1
    refine sK fun K1 u1=>?_
    (refine sQ q1Qx fun K z=>?_;simp -implicitDefEqProofs only [EV,forall_const,implies_true,Nat.reduceAdd,Nat.reduceEqDiff,Nat.reduceBEq,Nat.reduceLeDiff,Nat.reduceSub,Nat.reduceMul,Int.reduceEq,Int.reduceLT,Int.reduceLE,Int.reduceSub,Int.reduceAdd,Int.reduceToNat,reduceCtorEq,Int.reduceNeg,TF3,TF4,TF9,TF25,TF26,TF28,TF30,TF49,TF50,TF75,TF96,TF124,TF147,tcC,e2];apply z;clear z K)
    refine tI ?_
    (refine sQ q1Qx fun K z=>?_;simp -implicitDefEqProofs only [EV,forall_const,implies_true,Nat.reduceAdd,Nat.reduceEqDiff,Nat.reduceBEq,Nat.reduceLeDiff,Nat.reduceSub,Nat.reduceMul,Int.reduceEq,Int.reduceLT,Int.reduceLE,Int.reduceSub,Int.reduceAdd,Int.reduceToNat,reduceCtorEq,Int.reduceNeg,TF3,TF4,TF9,TF25,TF26,TF28,TF30,TF49,TF50,TF75,TF96,TF124,TF147,tcC];refine⟨_,.inl ⟨_,rfl,hcall,rfl⟩,?_⟩;(try simp -implicitDefEqProofs only [EV,forall_const,implies_true,Nat.reduceAdd,Nat.reduceEqDiff,Nat.reduceBEq,Nat.reduceLeDiff,Nat.reduceSub,Nat.reduceMul,Int.reduceEq,Int.reduceLT,Int.reduceLE,Int.reduceSub,Int.reduceAdd,Int.reduceToNat,reduceCtorEq,Int.reduceNeg,TF3,TF4,TF9,TF25,TF26,TF28,TF30,TF49,TF50,TF75,TF96,TF124,TF147,tcC]);apply z;clear z K)
    exact aR
  ·have n2:¬ e.kind=2:=by omega
   have e4:=decide_eq_true k
   refine sK fun K1 u1=>?_
   (refine sQ q1Qx fun K z=>?_;simp -implicitDefEqProofs only [EV,forall_const,implies_true,Nat.reduceAdd,Nat.reduceEqDiff,Nat.reduceBEq,Nat.reduceLeDiff,Nat.reduceSub,Nat.reduceMul,Int.reduceEq,Int.reduceLT,Int.reduceLE,Int.reduceSub,Int.reduceAdd,Int.reduceToNat,reduceCtorEq,Int.reduceNeg,TF3,TF4,TF9,TF25,TF26,TF28,TF30,TF49,TF50,TF75,TF96,TF124,TF147,tcC,decide_not,n2,e4,hl0];apply z;clear z K)
   refine kI u1 ?_
   clear u1 K1
   (refine sG q1Qx [] 12 [⟨[],[],[9,10],[9,10]⟩,⟨[],[],[9,10],[9,10]⟩,⟨[],[],[9,10],[9,10]⟩,⟨[],[],[9,10],[9,10]⟩,⟨[],[],[9,10],[9,10]⟩,⟨[],[],[9,10],[9,10]⟩,⟨[],[],[9,10],[9,10]⟩,⟨[],[],[9,10],[9,10]⟩,⟨[],[],[9,10],[9,10]⟩,⟨[9],[9],[10],[10]⟩,⟨[10],[10],[9],[9]⟩,⟨[9],[],[],[]⟩] fun K z=>?_;simp -implicitDefEqProofs only [EV,forall_const,implies_true,Nat.reduceAdd,Nat.reduceEqDiff,Nat.reduceBEq,Nat.reduceLeDiff,Nat.reduceSub,Nat.reduceMul,Int.reduceEq,Int.reduceLT,Int.reduceLE,Int.reduceSub,Int.reduceAdd,Int.reduceToNat,reduceCtorEq,Int.reduceNeg,TF3,TF4,TF9,TF25,TF26,TF28,TF30,TF49,TF50,TF75,TF96,TF124,TF147,tcC];refine⟨_,exR_get h0,rfl,?_⟩;(try simp -implicitDefEqProofs only [EV,forall_const,implies_true,Nat.reduceAdd,Nat.reduceEqDiff,Nat.reduceBEq,Nat.reduceLeDiff,Nat.reduceSub,Nat.reduceMul,Int.reduceEq,Int.reduceLT,Int.reduceLE,Int.reduceSub,Int.reduceAdd,Int.reduceToNat,reduceCtorEq,Int.reduceNeg,TF3,TF4,TF9,TF25,TF26,TF28,TF30,TF49,TF50,TF75,TF96,TF124,TF147,tcC]);refine⟨_,.inl ⟨_,rfl,hT,rfl⟩,?_⟩;(try simp -implicitDefEqProofs only [EV,forall_const,implies_true,Nat.reduceAdd,Nat.reduceEqDiff,Nat.reduceBEq,Nat.reduceLeDiff,Nat.reduceSub,Nat.reduceMul,Int.reduceEq,Int.reduceLT,Int.reduceLE,Int.reduceSub,Int.reduceAdd,Int.reduceToNat,reduceCtorEq,Int.reduceNeg,TF3,TF4,TF9,TF25,TF26,TF28,TF30,TF49,TF50,TF75,TF96,TF124,TF147,tcC]);apply z;clear z K)
   (refine AWp.freeze 9 rfl rfl ?_;refine AWp.freeze 10 rfl rfl (wk [(2,.dptr (tcC c) 0),(3,.dptr (exC e) 0),(4,.box 4 0),(5,.box 5 0),(9,.dptr (tyC x) 0),(10,.dptr [.int .i64 q,.bool b,.bool lg] 0)] [(4,ty0C),(5,rs0)] ?_))
   cases b with
   | true =>
    rw [if_pos rfl] at hR
    subst hR
    refine kR q1Qx fun K1 u1=>?_
    refine tI ?_
    (refine sG q1Qx [] 3 [⟨[],[],[],[]⟩,⟨[],[],[4],[]⟩,⟨[4],[],[],[]⟩] fun K z=>?_;refine ev ?_;apply z;clear z K)
    exact aR
   | false =>
    rw [if_neg (by simp),if_neg n2,if_pos k] at hR
    refine kR q1Qx fun K1 u1=>?_
    refine kI u1 ?_
    clear u1 K1
    refine sK fun K1 u1=>?_
    (refine sQ q1Qx fun K z=>?_;simp -implicitDefEqProofs only [EV,forall_const,implies_true,Nat.reduceAdd,Nat.reduceEqDiff,Nat.reduceBEq,Nat.reduceLeDiff,Nat.reduceSub,Nat.reduceMul,Int.reduceEq,Int.reduceLT,Int.reduceLE,Int.reduceSub,Int.reduceAdd,Int.reduceToNat,reduceCtorEq,Int.reduceNeg,TF3,TF4,TF9,TF25,TF26,TF28,TF30,TF49,TF50,TF75,TF96,TF124,TF147,tcC,n2];apply z;clear z K)
    refine kI u1 ?_
    clear u1 K1
    refine sK fun K1 u1=>?_
    (refine sQ q1Qx fun K z=>?_;simp -implicitDefEqProofs only [EV,forall_const,implies_true,Nat.reduceAdd,Nat.reduceEqDiff,Nat.reduceBEq,Nat.reduceLeDiff,Nat.reduceSub,Nat.reduceMul,Int.reduceEq,Int.reduceLT,Int.reduceLE,Int.reduceSub,Int.reduceAdd,Int.reduceToNat,reduceCtorEq,Int.reduceNeg,TF3,TF4,TF9,TF25,TF26,TF28,TF30,TF49,TF50,TF75,TF96,TF124,TF147,tcC,e4];apply z;clear z K)
    refine tI ?_
    have hst:=ok_isStruct16 c hc x
    rcases Bool.eq_false_or_eq_true (structT c x) with hs | hs
    rotate_left
    ·obtain rfl:R=noT e.pos:=by rw [← hR];unfold fieldT;rw [if_pos hs]
     rw [hs] at hst
     refine sK fun K2 u2=>?_
     (refine sQ q1Qx fun K z=>?_;simp -implicitDefEqProofs only [EV,forall_const,implies_true,Nat.reduceAdd,Nat.reduceEqDiff,Nat.reduceBEq,Nat.reduceLeDiff,Nat.reduceSub,Nat.reduceMul,Int.reduceEq,Int.reduceLT,Int.reduceLE,Int.reduceSub,Int.reduceAdd,Int.reduceToNat,reduceCtorEq,Int.reduceNeg,TF3,TF4,TF9,TF25,TF26,TF28,TF30,TF49,TF50,TF75,TF96,TF124,TF147,tcC];refine⟨_,.inl ⟨_,rfl,hst,rfl⟩,?_⟩;(try simp -implicitDefEqProofs only [EV,forall_const,implies_true,Nat.reduceAdd,Nat.reduceEqDiff,Nat.reduceBEq,Nat.reduceLeDiff,Nat.reduceSub,Nat.reduceMul,Int.reduceEq,Int.reduceLT,Int.reduceLE,Int.reduceSub,Int.reduceAdd,Int.reduceToNat,reduceCtorEq,Int.reduceNeg,TF3,TF4,TF9,TF25,TF26,TF28,TF30,TF49,TF50,TF75,TF96,TF124,TF147,tcC]);apply z;clear z K)
     refine tI ?_
     (refine sQ q1Qx fun K z=>?_;simp -implicitDefEqProofs only [EV,forall_const,implies_true,Nat.reduceAdd,Nat.reduceEqDiff,Nat.reduceBEq,Nat.reduceLeDiff,Nat.reduceSub,Nat.reduceMul,Int.reduceEq,Int.reduceLT,Int.reduceLE,Int.reduceSub,Int.reduceAdd,Int.reduceToNat,reduceCtorEq,Int.reduceNeg,TF3,TF4,TF9,TF25,TF26,TF28,TF30,TF49,TF50,TF75,TF96,TF124,TF147,tcC];refine⟨_,.inl ⟨_,rfl,hnoE,rfl⟩,?_⟩;(try simp -implicitDefEqProofs only [EV,forall_const,implies_true,Nat.reduceAdd,Nat.reduceEqDiff,Nat.reduceBEq,Nat.reduceLeDiff,Nat.reduceSub,Nat.reduceMul,Int.reduceEq,Int.reduceLT,Int.reduceLE,Int.reduceSub,Int.reduceAdd,Int.reduceToNat,reduceCtorEq,Int.reduceNeg,TF3,TF4,TF9,TF25,TF26,TF28,TF30,TF49,TF50,TF75,TF96,TF124,TF147,tcC]);apply z;clear z K)
     exact aR
    have hfi:=ok_RFields c.p hc.p x hzs (structT_inst hs)
    have hfl:=fieldsT_len hc.p x
    have hneg:=@fieldT_neg c e x ⟨q,false,lg⟩ hs
    have hpos:∀ (j:Nat) (f:Param),fieldI (fieldsT c.p x) e.name=j→(fieldsT c.p x)[j]? = some f→fieldT c e x ⟨q,false,lg⟩=foundT (f.type,⟨q,false,lg⟩):=fun j f h1 h2=>by
     unfold fieldT;rw [if_neg (by rw [hs];simp),h1,Int.toNat_natCast,h2];simp only;rw [if_neg (by omega)]
    rw [hs] at hst
    generalize fieldsT c.p x=L at *
    refine sK fun K2 u2=>?_
    (refine sQ q1Qx fun K z=>?_;simp -implicitDefEqProofs only [EV,forall_const,implies_true,Nat.reduceAdd,Nat.reduceEqDiff,Nat.reduceBEq,Nat.reduceLeDiff,Nat.reduceSub,Nat.reduceMul,Int.reduceEq,Int.reduceLT,Int.reduceLE,Int.reduceSub,Int.reduceAdd,Int.reduceToNat,reduceCtorEq,Int.reduceNeg,TF3,TF4,TF9,TF25,TF26,TF28,TF30,TF49,TF50,TF75,TF96,TF124,TF147,tcC];refine⟨_,.inl ⟨_,rfl,hst,rfl⟩,?_⟩;(try simp -implicitDefEqProofs only [EV,forall_const,implies_true,Nat.reduceAdd,Nat.reduceEqDiff,Nat.reduceBEq,Nat.reduceLeDiff,Nat.reduceSub,Nat.reduceMul,Int.reduceEq,Int.reduceLT,Int.reduceLE,Int.reduceSub,Int.reduceAdd,Int.reduceToNat,reduceCtorEq,Int.reduceNeg,TF3,TF4,TF9,TF25,TF26,TF28,TF30,TF49,TF50,TF75,TF96,TF124,TF147,tcC]);apply z;clear z K)
    refine kI u2 ?_
    clear u2 K2
    (refine sQ q1Qx fun K z=>?_;simp -implicitDefEqProofs only [EV,forall_const,implies_true,Nat.reduceAdd,Nat.reduceEqDiff,Nat.reduceBEq,Nat.reduceLeDiff,Nat.reduceSub,Nat.reduceMul,Int.reduceEq,Int.reduceLT,Int.reduceLE,Int.reduceSub,Int.reduceAdd,Int.reduceToNat,reduceCtorEq,Int.reduceNeg,TF3,TF4,TF9,TF25,TF26,TF28,TF30,TF49,TF50,TF75,TF96,TF124,TF147,tcC];refine⟨_,.inl ⟨_,rfl,hfi,rfl⟩,?_⟩;(try simp -implicitDefEqProofs only [EV,forall_const,implies_true,Nat.reduceAdd,Nat.reduceEqDiff,Nat.reduceBEq,Nat.reduceLeDiff,Nat.reduceSub,Nat.reduceMul,Int.reduceEq,Int.reduceLT,Int.reduceLE,Int.reduceSub,Int.reduceAdd,Int.reduceToNat,reduceCtorEq,Int.reduceNeg,TF3,TF4,TF9,TF25,TF26,TF28,TF30,TF49,TF50,TF75,TF96,TF124,TF147,tcC]);apply z;clear z K)
    refine sK fun K2 u2=>?_
    (refine sQ q1Qx fun K z=>?_;simp -implicitDefEqProofs only [EV,forall_const,implies_true,Nat.reduceAdd,Nat.reduceEqDiff,Nat.reduceBEq,Nat.reduceLeDiff,Nat.reduceSub,Nat.reduceMul,Int.reduceEq,Int.reduceLT,Int.reduceLE,Int.reduceSub,Int.reduceAdd,Int.reduceToNat,reduceCtorEq,Int.reduceNeg,TF3,TF4,TF9,TF25,TF26,TF28,TF30,TF49,TF50,TF75,TF96,TF124,TF147,tcC];apply z;clear z K)
    refine AWp.block (AWp.forIdx L (X:=Unit) (fun j _=>[(2,.dptr (tcC c) 0),(3,.dptr (exC e) 0),(4,.box 4 0),(5,.box 5 0),(10,.dptr [.int .i64 q,.bool false,.bool lg] 0),(11,.d (.slice (paR L))),(12,intV j)]) (fun _ _=>[(4,ty0C),(5,rs0)])
     (fun j _=>∀ y,y∈L.take j→(fun f:Param=>decide (f.name=e.name)) y=false) () (by simp) (by simp [sle,vle,sget,tcC,exC]) (by simp [ble,bget,exC,tyC,foC,paC,siC,deC,prC]) ?_ ?_)
    rotate_left
    ·intro j _ d hd hmem dp tk hlt hI
     refine sK fun K3 u3=>?_
     (refine sQ q1Qx fun K z=>?_;simp -implicitDefEqProofs only [EV,forall_const,implies_true,Nat.reduceAdd,Nat.reduceEqDiff,Nat.reduceBEq,Nat.reduceLeDiff,Nat.reduceSub,Nat.reduceMul,Int.reduceEq,Int.reduceLT,Int.reduceLE,Int.reduceSub,Int.reduceAdd,Int.reduceToNat,reduceCtorEq,Int.reduceNeg,TF3,TF4,TF9,TF25,TF26,TF28,TF30,TF49,TF50,TF75,TF96,TF124,TF147,tcC,hlt];apply z;clear z K)
     refine gI u3 ?_
     clear u3 K3
     refine sK fun K3 u3=>?_
     refine AWp.block ?_
     by_cases hn:d.name=e.name
     ·have hix:fieldI L e.name=j:=idxF_some hd (by simp [hn]) hI
      have hfd:=hfd d
      rw [← hpos j d hix hd,hR] at hfd
      obtain⟨rt,rr⟩:=R
      have dn:=decide_eq_true hn
      (refine sG q1Qx [] 7 [] fun K z=>?_;simp -implicitDefEqProofs only [EV,forall_const,implies_true,Nat.reduceAdd,Nat.reduceEqDiff,Nat.reduceBEq,Nat.reduceLeDiff,Nat.reduceSub,Nat.reduceMul,Int.reduceEq,Int.reduceLT,Int.reduceLE,Int.reduceSub,Int.reduceAdd,Int.reduceToNat,reduceCtorEq,Int.reduceNeg,TF3,TF4,TF9,TF25,TF26,TF28,TF30,TF49,TF50,TF75,TF96,TF124,TF147,tcC,dn];refine⟨by omega,_,paR_get hd,rfl,?_⟩;(try simp -implicitDefEqProofs only [EV,forall_const,implies_true,Nat.reduceAdd,Nat.reduceEqDiff,Nat.reduceBEq,Nat.reduceLeDiff,Nat.reduceSub,Nat.reduceMul,Int.reduceEq,Int.reduceLT,Int.reduceLE,Int.reduceSub,Int.reduceAdd,Int.reduceToNat,reduceCtorEq,Int.reduceNeg,TF3,TF4,TF9,TF25,TF26,TF28,TF30,TF49,TF50,TF75,TF96,TF124,TF147,tcC,dn]);apply z;clear z K)
      refine AWp.condT rfl ?_
      (refine sG q1Qx [] 9 [] fun K z=>?_;simp -implicitDefEqProofs only [EV,forall_const,implies_true,Nat.reduceAdd,Nat.reduceEqDiff,Nat.reduceBEq,Nat.reduceLeDiff,Nat.reduceSub,Nat.reduceMul,Int.reduceEq,Int.reduceLT,Int.reduceLE,Int.reduceSub,Int.reduceAdd,Int.reduceToNat,reduceCtorEq,Int.reduceNeg,TF3,TF4,TF9,TF25,TF26,TF28,TF30,TF49,TF50,TF75,TF96,TF124,TF147,tcC];refine⟨by omega,_,paR_get hd,rfl,?_⟩;(try simp -implicitDefEqProofs only [EV,forall_const,implies_true,Nat.reduceAdd,Nat.reduceEqDiff,Nat.reduceBEq,Nat.reduceLeDiff,Nat.reduceSub,Nat.reduceMul,Int.reduceEq,Int.reduceLT,Int.reduceLE,Int.reduceSub,Int.reduceAdd,Int.reduceToNat,reduceCtorEq,Int.reduceNeg,TF3,TF4,TF9,TF25,TF26,TF28,TF30,TF49,TF50,TF75,TF96,TF124,TF147,tcC]);refine⟨_,.inl ⟨_,rfl,hfd,rfl⟩,?_⟩;(try simp -implicitDefEqProofs only [EV,forall_const,implies_true,Nat.reduceAdd,Nat.reduceEqDiff,Nat.reduceBEq,Nat.reduceLeDiff,Nat.reduceSub,Nat.reduceMul,Int.reduceEq,Int.reduceLT,Int.reduceLE,Int.reduceSub,Int.reduceAdd,Int.reduceToNat,reduceCtorEq,Int.reduceNeg,TF3,TF4,TF9,TF25,TF26,TF28,TF30,TF49,TF50,TF75,TF96,TF124,TF147,tcC]);apply z;clear z K)
      exact aR
     ·(refine sG q1Qx [] 7 [] fun K z=>?_;simp -implicitDefEqProofs only [EV,forall_const,implies_true,Nat.reduceAdd,Nat.reduceEqDiff,Nat.reduceBEq,Nat.reduceLeDiff,Nat.reduceSub,Nat.reduceMul,Int.reduceEq,Int.reduceLT,Int.reduceLE,Int.reduceSub,Int.reduceAdd,Int.reduceToNat,reduceCtorEq,Int.reduceNeg,TF3,TF4,TF9,TF25,TF26,TF28,TF30,TF49,TF50,TF75,TF96,TF124,TF147,tcC,hn];refine⟨by omega,_,paR_get hd,rfl,?_⟩;(try simp -implicitDefEqProofs only [EV,forall_const,implies_true,Nat.reduceAdd,Nat.reduceEqDiff,Nat.reduceBEq,Nat.reduceLeDiff,Nat.reduceSub,Nat.reduceMul,Int.reduceEq,Int.reduceLT,Int.reduceLE,Int.reduceSub,Int.reduceAdd,Int.reduceToNat,reduceCtorEq,Int.reduceNeg,TF3,TF4,TF9,TF25,TF26,TF28,TF30,TF49,TF50,TF75,TF96,TF124,TF147,tcC,hn]);apply z;clear z K)
      refine AWp.condF rfl (AWp.skip (u3 _ _ ?_))
      clear u3 K3
      (refine lQ q1Qx fun K z=>?_;simp -implicitDefEqProofs only [EV,forall_const,implies_true,Nat.reduceAdd,Nat.reduceEqDiff,Nat.reduceBEq,Nat.reduceLeDiff,Nat.reduceSub,Nat.reduceMul,Int.reduceEq,Int.reduceLT,Int.reduceLE,Int.reduceSub,Int.reduceAdd,Int.reduceToNat,reduceCtorEq,Int.reduceNeg,TF3,TF4,TF9,TF25,TF26,TF28,TF30,TF49,TF50,TF75,TF96,TF124,TF147,tcC];refine⟨by first | (unfold InR;omega) | (simp only [InR,sm,lim] at *;omega),?_⟩;(try simp -implicitDefEqProofs only [EV,forall_const,implies_true,Nat.reduceAdd,Nat.reduceEqDiff,Nat.reduceBEq,Nat.reduceLeDiff,Nat.reduceSub,Nat.reduceMul,Int.reduceEq,Int.reduceLT,Int.reduceLE,Int.reduceSub,Int.reduceAdd,Int.reduceToNat,reduceCtorEq,Int.reduceNeg,TF3,TF4,TF9,TF25,TF26,TF28,TF30,TF49,TF50,TF75,TF96,TF124,TF147,tcC]);apply z;clear z K;try simp only [thenA,blockA,if_true])
      refine⟨(),?_,(by simp [sle,vle,sget,tcC,exC]),(by simp [ble,bget,exC,tyC,foC,paC,siC,deC,prC])⟩
      intro y hy
      rw [tk,List.mem_append] at hy
      rcases hy with hy | hy
      ·exact hI y hy
      ·simp only [List.mem_singleton] at hy;subst hy;exact decide_eq_false hn
    intro _ hI
    rw [List.take_length] at hI
    obtain rfl:R=noT e.pos:=by rw [← hR];exact hneg (idxF_none hI)
    refine sK fun K3 u3=>?_
    (refine sQ q1Qx fun K z=>?_;simp -implicitDefEqProofs only [EV,forall_const,implies_true,Nat.reduceAdd,Nat.reduceEqDiff,Nat.reduceBEq,Nat.reduceLeDiff,Nat.reduceSub,Nat.reduceMul,Int.reduceEq,Int.reduceLT,Int.reduceLE,Int.reduceSub,Int.reduceAdd,Int.reduceToNat,reduceCtorEq,Int.reduceNeg,TF3,TF4,TF9,TF25,TF26,TF28,TF30,TF49,TF50,TF75,TF96,TF124,TF147,tcC,Int.lt_irrefl];apply z;clear z K)
    refine AWp.stopK rfl ?_
    simp only [thenA,blockA,if_true]
    refine u2 _ _ ?_
    (refine sQ q1Qx fun K z=>?_;simp -implicitDefEqProofs only [EV,forall_const,implies_true,Nat.reduceAdd,Nat.reduceEqDiff,Nat.reduceBEq,Nat.reduceLeDiff,Nat.reduceSub,Nat.reduceMul,Int.reduceEq,Int.reduceLT,Int.reduceLE,Int.reduceSub,Int.reduceAdd,Int.reduceToNat,reduceCtorEq,Int.reduceNeg,TF3,TF4,TF9,TF25,TF26,TF28,TF30,TF49,TF50,TF75,TF96,TF124,TF147,tcC];refine⟨_,.inl ⟨_,rfl,hnoE,rfl⟩,?_⟩;(try simp -implicitDefEqProofs only [EV,forall_const,implies_true,Nat.reduceAdd,Nat.reduceEqDiff,Nat.reduceBEq,Nat.reduceLeDiff,Nat.reduceSub,Nat.reduceMul,Int.reduceEq,Int.reduceLT,Int.reduceLE,Int.reduceSub,Int.reduceAdd,Int.reduceToNat,reduceCtorEq,Int.reduceNeg,TF3,TF4,TF9,TF25,TF26,TF28,TF30,TF49,TF50,TF75,TF96,TF124,TF147,tcC]);apply z;clear z K)
    exact aR
  ·have n2:¬ e.kind=2:=by omega
   have n4:¬ e.kind=4:=by omega
   have e5:=decide_eq_true k
   refine sK fun K1 u1=>?_
   (refine sQ q1Qx fun K z=>?_;simp -implicitDefEqProofs only [EV,forall_const,implies_true,Nat.reduceAdd,Nat.reduceEqDiff,Nat.reduceBEq,Nat.reduceLeDiff,Nat.reduceSub,Nat.reduceMul,Int.reduceEq,Int.reduceLT,Int.reduceLE,Int.reduceSub,Int.reduceAdd,Int.reduceToNat,reduceCtorEq,Int.reduceNeg,TF3,TF4,TF9,TF25,TF26,TF28,TF30,TF49,TF50,TF75,TF96,TF124,TF147,tcC,decide_not,n2,n4,e5,hl0];apply z;clear z K)
   refine kI u1 ?_
   clear u1 K1
   (refine sG q1Qx [] 12 [⟨[],[],[9,10],[9,10]⟩,⟨[],[],[9,10],[9,10]⟩,⟨[],[],[9,10],[9,10]⟩,⟨[],[],[9,10],[9,10]⟩,⟨[],[],[9,10],[9,10]⟩,⟨[],[],[9,10],[9,10]⟩,⟨[],[],[9,10],[9,10]⟩,⟨[],[],[9,10],[9,10]⟩,⟨[],[],[9,10],[9,10]⟩,⟨[9],[9],[10],[10]⟩,⟨[10],[10],[9],[9]⟩,⟨[9],[],[],[]⟩] fun K z=>?_;simp -implicitDefEqProofs only [EV,forall_const,implies_true,Nat.reduceAdd,Nat.reduceEqDiff,Nat.reduceBEq,Nat.reduceLeDiff,Nat.reduceSub,Nat.reduceMul,Int.reduceEq,Int.reduceLT,Int.reduceLE,Int.reduceSub,Int.reduceAdd,Int.reduceToNat,reduceCtorEq,Int.reduceNeg,TF3,TF4,TF9,TF25,TF26,TF28,TF30,TF49,TF50,TF75,TF96,TF124,TF147,tcC];refine⟨_,exR_get h0,rfl,?_⟩;(try simp -implicitDefEqProofs only [EV,forall_const,implies_true,Nat.reduceAdd,Nat.reduceEqDiff,Nat.reduceBEq,Nat.reduceLeDiff,Nat.reduceSub,Nat.reduceMul,Int.reduceEq,Int.reduceLT,Int.reduceLE,Int.reduceSub,Int.reduceAdd,Int.reduceToNat,reduceCtorEq,Int.reduceNeg,TF3,TF4,TF9,TF25,TF26,TF28,TF30,TF49,TF50,TF75,TF96,TF124,TF147,tcC]);refine⟨_,.inl ⟨_,rfl,hT,rfl⟩,?_⟩;(try simp -implicitDefEqProofs only [EV,forall_const,implies_true,Nat.reduceAdd,Nat.reduceEqDiff,Nat.reduceBEq,Nat.reduceLeDiff,Nat.reduceSub,Nat.reduceMul,Int.reduceEq,Int.reduceLT,Int.reduceLE,Int.reduceSub,Int.reduceAdd,Int.reduceToNat,reduceCtorEq,Int.reduceNeg,TF3,TF4,TF9,TF25,TF26,TF28,TF30,TF49,TF50,TF75,TF96,TF124,TF147,tcC]);apply z;clear z K)
   (refine AWp.freeze 9 rfl rfl ?_;refine AWp.freeze 10 rfl rfl (wk [(2,.dptr (tcC c) 0),(3,.dptr (exC e) 0),(4,.box 4 0),(5,.box 5 0),(9,.dptr (tyC x) 0),(10,.dptr [.int .i64 q,.bool b,.bool lg] 0)] [(4,ty0C),(5,rs0)] ?_))
   cases b with
   | true =>
    rw [if_pos rfl] at hR
    subst hR
    refine kR q1Qx fun K1 u1=>?_
    refine tI ?_
    (refine sG q1Qx [] 3 [⟨[],[],[],[]⟩,⟨[],[],[4],[]⟩,⟨[4],[],[],[]⟩] fun K z=>?_;refine ev ?_;apply z;clear z K)
    exact aR
   | false =>
    rw [if_neg (by simp),if_neg n2,if_neg n4] at hR
    unfold assertT at hR
    refine kR q1Qx fun K1 u1=>?_
    refine kI u1 ?_
    clear u1 K1
    refine sK fun K1 u1=>?_
    (refine sQ q1Qx fun K z=>?_;simp -implicitDefEqProofs only [EV,forall_const,implies_true,Nat.reduceAdd,Nat.reduceEqDiff,Nat.reduceBEq,Nat.reduceLeDiff,Nat.reduceSub,Nat.reduceMul,Int.reduceEq,Int.reduceLT,Int.reduceLE,Int.reduceSub,Int.reduceAdd,Int.reduceToNat,reduceCtorEq,Int.reduceNeg,TF3,TF4,TF9,TF25,TF26,TF28,TF30,TF49,TF50,TF75,TF96,TF124,TF147,tcC,n2];apply z;clear z K)
    refine kI u1 ?_
    clear u1 K1
    refine sK fun K1 u1=>?_
    (refine sQ q1Qx fun K z=>?_;simp -implicitDefEqProofs only [EV,forall_const,implies_true,Nat.reduceAdd,Nat.reduceEqDiff,Nat.reduceBEq,Nat.reduceLeDiff,Nat.reduceSub,Nat.reduceMul,Int.reduceEq,Int.reduceLT,Int.reduceLE,Int.reduceSub,Int.reduceAdd,Int.reduceToNat,reduceCtorEq,Int.reduceNeg,TF3,TF4,TF9,TF25,TF26,TF28,TF30,TF49,TF50,TF75,TF96,TF124,TF147,tcC,n4];apply z;clear z K)
    refine kI u1 ?_
    clear u1 K1
    cases ho:chk c.p c.env e.type with
    | some n =>
     rw [ho] at hck hR
     simp only [chkV] at hck hR
     have hnoQ:=ok_no16 n
     subst hR
     (refine sQ q1Qx fun K z=>?_;simp -implicitDefEqProofs only [EV,forall_const,implies_true,Nat.reduceAdd,Nat.reduceEqDiff,Nat.reduceBEq,Nat.reduceLeDiff,Nat.reduceSub,Nat.reduceMul,Int.reduceEq,Int.reduceLT,Int.reduceLE,Int.reduceSub,Int.reduceAdd,Int.reduceToNat,reduceCtorEq,Int.reduceNeg,TF3,TF4,TF9,TF25,TF26,TF28,TF30,TF49,TF50,TF75,TF96,TF124,TF147,tcC];refine⟨_,.inl ⟨_,rfl,hck,rfl⟩,?_⟩;(try simp -implicitDefEqProofs only [EV,forall_const,implies_true,Nat.reduceAdd,Nat.reduceEqDiff,Nat.reduceBEq,Nat.reduceLeDiff,Nat.reduceSub,Nat.reduceMul,Int.reduceEq,Int.reduceLT,Int.reduceLE,Int.reduceSub,Int.reduceAdd,Int.reduceToNat,reduceCtorEq,Int.reduceNeg,TF3,TF4,TF9,TF25,TF26,TF28,TF30,TF49,TF50,TF75,TF96,TF124,TF147,tcC]);apply z;clear z K)
     refine sK fun K1 u1=>?_
     (refine sQ q1Qx fun K z=>?_;simp -implicitDefEqProofs only [EV,forall_const,implies_true,Nat.reduceAdd,Nat.reduceEqDiff,Nat.reduceBEq,Nat.reduceLeDiff,Nat.reduceSub,Nat.reduceMul,Int.reduceEq,Int.reduceLT,Int.reduceLE,Int.reduceSub,Int.reduceAdd,Int.reduceToNat,reduceCtorEq,Int.reduceNeg,TF3,TF4,TF9,TF25,TF26,TF28,TF30,TF49,TF50,TF75,TF96,TF124,TF147,tcC];apply z;clear z K)
     refine tI ?_
     (refine sQ q1Qx fun K z=>?_;simp -implicitDefEqProofs only [EV,forall_const,implies_true,Nat.reduceAdd,Nat.reduceEqDiff,Nat.reduceBEq,Nat.reduceLeDiff,Nat.reduceSub,Nat.reduceMul,Int.reduceEq,Int.reduceLT,Int.reduceLE,Int.reduceSub,Int.reduceAdd,Int.reduceToNat,reduceCtorEq,Int.reduceNeg,TF3,TF4,TF9,TF25,TF26,TF28,TF30,TF49,TF50,TF75,TF96,TF124,TF147,tcC];refine⟨_,.inl ⟨_,rfl,hnoQ,rfl⟩,?_⟩;(try simp -implicitDefEqProofs only [EV,forall_const,implies_true,Nat.reduceAdd,Nat.reduceEqDiff,Nat.reduceBEq,Nat.reduceLeDiff,Nat.reduceSub,Nat.reduceMul,Int.reduceEq,Int.reduceLT,Int.reduceLE,Int.reduceSub,Int.reduceAdd,Int.reduceToNat,reduceCtorEq,Int.reduceNeg,TF3,TF4,TF9,TF25,TF26,TF28,TF30,TF49,TF50,TF75,TF96,TF124,TF147,tcC]);apply z;clear z K)
     exact aR
    | none =>
     rw [ho] at hck hR
     simp only [chkV] at hck hR
     (refine sQ q1Qx fun K z=>?_;simp -implicitDefEqProofs only [EV,forall_const,implies_true,Nat.reduceAdd,Nat.reduceEqDiff,Nat.reduceBEq,Nat.reduceLeDiff,Nat.reduceSub,Nat.reduceMul,Int.reduceEq,Int.reduceLT,Int.reduceLE,Int.reduceSub,Int.reduceAdd,Int.reduceToNat,reduceCtorEq,Int.reduceNeg,TF3,TF4,TF9,TF25,TF26,TF28,TF30,TF49,TF50,TF75,TF96,TF124,TF147,tcC];refine⟨_,.inl ⟨_,rfl,hck,rfl⟩,?_⟩;(try simp -implicitDefEqProofs only [EV,forall_const,implies_true,Nat.reduceAdd,Nat.reduceEqDiff,Nat.reduceBEq,Nat.reduceLeDiff,Nat.reduceSub,Nat.reduceMul,Int.reduceEq,Int.reduceLT,Int.reduceLE,Int.reduceSub,Int.reduceAdd,Int.reduceToNat,reduceCtorEq,Int.reduceNeg,TF3,TF4,TF9,TF25,TF26,TF28,TF30,TF49,TF50,TF75,TF96,TF124,TF147,tcC]);apply z;clear z K)
     refine sK fun K1 u1=>?_
     (refine sQ q1Qx fun K z=>?_;simp -implicitDefEqProofs only [EV,forall_const,implies_true,Nat.reduceAdd,Nat.reduceEqDiff,Nat.reduceBEq,Nat.reduceLeDiff,Nat.reduceSub,Nat.reduceMul,Int.reduceEq,Int.reduceLT,Int.reduceLE,Int.reduceSub,Int.reduceAdd,Int.reduceToNat,reduceCtorEq,Int.reduceNeg,TF3,TF4,TF9,TF25,TF26,TF28,TF30,TF49,TF50,TF75,TF96,TF124,TF147,tcC];apply z;clear z K)
     refine kI u1 ?_
     clear u1 K1
     have hfv:=ok_RefFind c.env x hc.el
     have hox:=ok_open16 c hc x
     have hoy:=ok_open16 c hc e.type
     refine sK fun K1 u1=>?_
     rcases Bool.eq_false_or_eq_true c.strict with hst | hst
     rotate_left
     ·rw [if_neg (fun hh=>by rw [hst] at hh;cases hh.1)] at hR
      subst hR
      (refine sQ q1Qx fun K z=>?_;simp -implicitDefEqProofs only [EV,forall_const,implies_true,Nat.reduceAdd,Nat.reduceEqDiff,Nat.reduceBEq,Nat.reduceLeDiff,Nat.reduceSub,Nat.reduceMul,Int.reduceEq,Int.reduceLT,Int.reduceLE,Int.reduceSub,Int.reduceAdd,Int.reduceToNat,reduceCtorEq,Int.reduceNeg,TF3,TF4,TF9,TF25,TF26,TF28,TF30,TF49,TF50,TF75,TF96,TF124,TF147,tcC,hst];apply z;clear z K)
      refine AWp.condF rfl (AWp.skip (u1 _ _ ?_))
      (refine sG q1Qx [] 4 [⟨[],[],[],[]⟩,⟨[],[],[],[]⟩,⟨[],[],[4],[]⟩,⟨[4],[],[],[]⟩] fun K z=>?_;simp -implicitDefEqProofs only [EV,forall_const,implies_true,Nat.reduceAdd,Nat.reduceEqDiff,Nat.reduceBEq,Nat.reduceLeDiff,Nat.reduceSub,Nat.reduceMul,Int.reduceEq,Int.reduceLT,Int.reduceLE,Int.reduceSub,Int.reduceAdd,Int.reduceToNat,reduceCtorEq,Int.reduceNeg,TF3,TF4,TF9,TF25,TF26,TF28,TF30,TF49,TF50,TF75,TF96,TF124,TF147,tcC];apply z;clear z K)
      exact aR
     ·(refine sQ q1Qx fun K z=>?_;simp -implicitDefEqProofs only [EV,forall_const,implies_true,Nat.reduceAdd,Nat.reduceEqDiff,Nat.reduceBEq,Nat.reduceLeDiff,Nat.reduceSub,Nat.reduceMul,Int.reduceEq,Int.reduceLT,Int.reduceLE,Int.reduceSub,Int.reduceAdd,Int.reduceToNat,reduceCtorEq,Int.reduceNeg,TF3,TF4,TF9,TF25,TF26,TF28,TF30,TF49,TF50,TF75,TF96,TF124,TF147,tcC];apply z;clear z K)
      refine AWp.cond rfl (fun _=>?_) (fun hf=>absurd (hst.symm.trans hf) (by decide))
      refine sR q1Qx ?_
      (refine sQ q1Qx fun K z=>?_;simp -implicitDefEqProofs only [EV,forall_const,implies_true,Nat.reduceAdd,Nat.reduceEqDiff,Nat.reduceBEq,Nat.reduceLeDiff,Nat.reduceSub,Nat.reduceMul,Int.reduceEq,Int.reduceLT,Int.reduceLE,Int.reduceSub,Int.reduceAdd,Int.reduceToNat,reduceCtorEq,Int.reduceNeg,TF3,TF4,TF9,TF25,TF26,TF28,TF30,TF49,TF50,TF75,TF96,TF124,TF147,tcC];refine⟨_,.inl ⟨_,rfl,hfv,rfl⟩,?_⟩;(try simp -implicitDefEqProofs only [EV,forall_const,implies_true,Nat.reduceAdd,Nat.reduceEqDiff,Nat.reduceBEq,Nat.reduceLeDiff,Nat.reduceSub,Nat.reduceMul,Int.reduceEq,Int.reduceLT,Int.reduceLE,Int.reduceSub,Int.reduceAdd,Int.reduceToNat,reduceCtorEq,Int.reduceNeg,TF3,TF4,TF9,TF25,TF26,TF28,TF30,TF49,TF50,TF75,TF96,TF124,TF147,tcC]);apply z;clear z K)
      refine sK fun K2 u2=>?_
      by_cases h0:0≤findV c.env x
      ·obtain⟨f,hf,_⟩:=findV_get (env:=c.env) (t:=x) (by omega)
       have hbt:=boundT_at h0 hf
       have hi:=ok_RImplements c.p hc.p c.env hc.el hc.env e.type f.bound he.type (hc.env f (List.mem_of_getElem? hf)).bound
       have hbi:implB c.p c.env e.type (boundT c x)=implB c.p c.env e.type f.bound:=by rw [hbt]
       rw [← hbi] at hi
       (refine sQ q1Qx fun K z=>?_;simp -implicitDefEqProofs only [EV,forall_const,implies_true,Nat.reduceAdd,Nat.reduceEqDiff,Nat.reduceBEq,Nat.reduceLeDiff,Nat.reduceSub,Nat.reduceMul,Int.reduceEq,Int.reduceLT,Int.reduceLE,Int.reduceSub,Int.reduceAdd,Int.reduceToNat,reduceCtorEq,Int.reduceNeg,TF3,TF4,TF9,TF25,TF26,TF28,TF30,TF49,TF50,TF75,TF96,TF124,TF147,tcC,ge_iff_le,h0];apply z;clear z K)
       refine AWp.condT rfl ?_
       (refine lQ q1Qx fun K z=>?_;simp -implicitDefEqProofs only [EV,forall_const,implies_true,Nat.reduceAdd,Nat.reduceEqDiff,Nat.reduceBEq,Nat.reduceLeDiff,Nat.reduceSub,Nat.reduceMul,Int.reduceEq,Int.reduceLT,Int.reduceLE,Int.reduceSub,Int.reduceAdd,Int.reduceToNat,reduceCtorEq,Int.reduceNeg,TF3,TF4,TF9,TF25,TF26,TF28,TF30,TF49,TF50,TF75,TF96,TF124,TF147,tcC];refine⟨h0,_,foR_get hf,rfl,?_⟩;(try simp -implicitDefEqProofs only [EV,forall_const,implies_true,Nat.reduceAdd,Nat.reduceEqDiff,Nat.reduceBEq,Nat.reduceLeDiff,Nat.reduceSub,Nat.reduceMul,Int.reduceEq,Int.reduceLT,Int.reduceLE,Int.reduceSub,Int.reduceAdd,Int.reduceToNat,reduceCtorEq,Int.reduceNeg,TF3,TF4,TF9,TF25,TF26,TF28,TF30,TF49,TF50,TF75,TF96,TF124,TF147,tcC]);apply z;clear z K;try simp only [thenA,blockA,if_true])
       refine u2 _ _ ?_
       clear u2 K2
       rcases Bool.eq_false_or_eq_true (openT c x) with ha | ha
       rotate_left
       ·rw [if_pos ⟨hst,by unfold possT;rw [ha];rfl⟩] at hR
        subst hR
        rw [ha] at hox
        (refine sQ q1Qx fun K z=>?_;simp -implicitDefEqProofs only [EV,forall_const,implies_true,Nat.reduceAdd,Nat.reduceEqDiff,Nat.reduceBEq,Nat.reduceLeDiff,Nat.reduceSub,Nat.reduceMul,Int.reduceEq,Int.reduceLT,Int.reduceLE,Int.reduceSub,Int.reduceAdd,Int.reduceToNat,reduceCtorEq,Int.reduceNeg,TF3,TF4,TF9,TF25,TF26,TF28,TF30,TF49,TF50,TF75,TF96,TF124,TF147,tcC];refine⟨_,.inl ⟨_,rfl,hox,rfl⟩,?_⟩;(try simp -implicitDefEqProofs only [EV,forall_const,implies_true,Nat.reduceAdd,Nat.reduceEqDiff,Nat.reduceBEq,Nat.reduceLeDiff,Nat.reduceSub,Nat.reduceMul,Int.reduceEq,Int.reduceLT,Int.reduceLE,Int.reduceSub,Int.reduceAdd,Int.reduceToNat,reduceCtorEq,Int.reduceNeg,TF3,TF4,TF9,TF25,TF26,TF28,TF30,TF49,TF50,TF75,TF96,TF124,TF147,tcC]);apply z;clear z K)
        refine tI ?_
        (refine sQ q1Qx fun K z=>?_;simp -implicitDefEqProofs only [EV,forall_const,implies_true,Nat.reduceAdd,Nat.reduceEqDiff,Nat.reduceBEq,Nat.reduceLeDiff,Nat.reduceSub,Nat.reduceMul,Int.reduceEq,Int.reduceLT,Int.reduceLE,Int.reduceSub,Int.reduceAdd,Int.reduceToNat,reduceCtorEq,Int.reduceNeg,TF3,TF4,TF9,TF25,TF26,TF28,TF30,TF49,TF50,TF75,TF96,TF124,TF147,tcC];refine⟨_,.inl ⟨_,rfl,hnoE,rfl⟩,?_⟩;(try simp -implicitDefEqProofs only [EV,forall_const,implies_true,Nat.reduceAdd,Nat.reduceEqDiff,Nat.reduceBEq,Nat.reduceLeDiff,Nat.reduceSub,Nat.reduceMul,Int.reduceEq,Int.reduceLT,Int.reduceLE,Int.reduceSub,Int.reduceAdd,Int.reduceToNat,reduceCtorEq,Int.reduceNeg,TF3,TF4,TF9,TF25,TF26,TF28,TF30,TF49,TF50,TF75,TF96,TF124,TF147,tcC]);apply z;clear z K)
        exact aR
       rw [ha] at hox
       rcases Bool.eq_false_or_eq_true (openT c e.type) with hb | hb
       ·rw [if_neg (fun hh=>by have:=hh.2;unfold possT at this;rw [ha,hb] at this;cases this)] at hR
        subst hR
        rw [hb] at hoy
        (refine sQ q1Qx fun K z=>?_;simp -implicitDefEqProofs only [EV,forall_const,implies_true,Nat.reduceAdd,Nat.reduceEqDiff,Nat.reduceBEq,Nat.reduceLeDiff,Nat.reduceSub,Nat.reduceMul,Int.reduceEq,Int.reduceLT,Int.reduceLE,Int.reduceSub,Int.reduceAdd,Int.reduceToNat,reduceCtorEq,Int.reduceNeg,TF3,TF4,TF9,TF25,TF26,TF28,TF30,TF49,TF50,TF75,TF96,TF124,TF147,tcC];refine⟨_,.inl ⟨_,rfl,hox,rfl⟩,?_⟩;(try simp -implicitDefEqProofs only [EV,forall_const,implies_true,Nat.reduceAdd,Nat.reduceEqDiff,Nat.reduceBEq,Nat.reduceLeDiff,Nat.reduceSub,Nat.reduceMul,Int.reduceEq,Int.reduceLT,Int.reduceLE,Int.reduceSub,Int.reduceAdd,Int.reduceToNat,reduceCtorEq,Int.reduceNeg,TF3,TF4,TF9,TF25,TF26,TF28,TF30,TF49,TF50,TF75,TF96,TF124,TF147,tcC]);refine⟨_,.inl ⟨_,rfl,hoy,rfl⟩,?_⟩;(try simp -implicitDefEqProofs only [EV,forall_const,implies_true,Nat.reduceAdd,Nat.reduceEqDiff,Nat.reduceBEq,Nat.reduceLeDiff,Nat.reduceSub,Nat.reduceMul,Int.reduceEq,Int.reduceLT,Int.reduceLE,Int.reduceSub,Int.reduceAdd,Int.reduceToNat,reduceCtorEq,Int.reduceNeg,TF3,TF4,TF9,TF25,TF26,TF28,TF30,TF49,TF50,TF75,TF96,TF124,TF147,tcC]);apply z;clear z K)
        refine AWp.condF rfl (AWp.skip (u1 _ _ ?_))
        (refine sG q1Qx [] 4 [⟨[],[],[],[]⟩,⟨[],[],[],[]⟩,⟨[],[],[4],[]⟩,⟨[4],[],[],[]⟩] fun K z=>?_;simp -implicitDefEqProofs only [EV,forall_const,implies_true,Nat.reduceAdd,Nat.reduceEqDiff,Nat.reduceBEq,Nat.reduceLeDiff,Nat.reduceSub,Nat.reduceMul,Int.reduceEq,Int.reduceLT,Int.reduceLE,Int.reduceSub,Int.reduceAdd,Int.reduceToNat,reduceCtorEq,Int.reduceNeg,TF3,TF4,TF9,TF25,TF26,TF28,TF30,TF49,TF50,TF75,TF96,TF124,TF147,tcC];apply z;clear z K)
        exact aR
       rw [hb] at hoy
       rcases Bool.eq_false_or_eq_true (implB c.p c.env e.type (boundT c x)) with hm | hm
       ·rw [if_neg (fun hh=>by have:=hh.2;unfold possT at this;rw [ha,hb,hm] at this;cases this)] at hR
        subst hR
        rw [hm] at hi
        (refine sQ q1Qx fun K z=>?_;simp -implicitDefEqProofs only [EV,forall_const,implies_true,Nat.reduceAdd,Nat.reduceEqDiff,Nat.reduceBEq,Nat.reduceLeDiff,Nat.reduceSub,Nat.reduceMul,Int.reduceEq,Int.reduceLT,Int.reduceLE,Int.reduceSub,Int.reduceAdd,Int.reduceToNat,reduceCtorEq,Int.reduceNeg,TF3,TF4,TF9,TF25,TF26,TF28,TF30,TF49,TF50,TF75,TF96,TF124,TF147,tcC];refine⟨_,.inl ⟨_,rfl,hox,rfl⟩,?_⟩;(try simp -implicitDefEqProofs only [EV,forall_const,implies_true,Nat.reduceAdd,Nat.reduceEqDiff,Nat.reduceBEq,Nat.reduceLeDiff,Nat.reduceSub,Nat.reduceMul,Int.reduceEq,Int.reduceLT,Int.reduceLE,Int.reduceSub,Int.reduceAdd,Int.reduceToNat,reduceCtorEq,Int.reduceNeg,TF3,TF4,TF9,TF25,TF26,TF28,TF30,TF49,TF50,TF75,TF96,TF124,TF147,tcC]);refine⟨_,.inl ⟨_,rfl,hoy,rfl⟩,?_⟩;(try simp -implicitDefEqProofs only [EV,forall_const,implies_true,Nat.reduceAdd,Nat.reduceEqDiff,Nat.reduceBEq,Nat.reduceLeDiff,Nat.reduceSub,Nat.reduceMul,Int.reduceEq,Int.reduceLT,Int.reduceLE,Int.reduceSub,Int.reduceAdd,Int.reduceToNat,reduceCtorEq,Int.reduceNeg,TF3,TF4,TF9,TF25,TF26,TF28,TF30,TF49,TF50,TF75,TF96,TF124,TF147,tcC]);refine⟨_,.inl ⟨_,rfl,hi,rfl⟩,?_⟩;(try simp -implicitDefEqProofs only [EV,forall_const,implies_true,Nat.reduceAdd,Nat.reduceEqDiff,Nat.reduceBEq,Nat.reduceLeDiff,Nat.reduceSub,Nat.reduceMul,Int.reduceEq,Int.reduceLT,Int.reduceLE,Int.reduceSub,Int.reduceAdd,Int.reduceToNat,reduceCtorEq,Int.reduceNeg,TF3,TF4,TF9,TF25,TF26,TF28,TF30,TF49,TF50,TF75,TF96,TF124,TF147,tcC]);apply z;clear z K)
        refine AWp.condF rfl (AWp.skip (u1 _ _ ?_))
        (refine sG q1Qx [] 4 [⟨[],[],[],[]⟩,⟨[],[],[],[]⟩,⟨[],[],[4],[]⟩,⟨[4],[],[],[]⟩] fun K z=>?_;simp -implicitDefEqProofs only [EV,forall_const,implies_true,Nat.reduceAdd,Nat.reduceEqDiff,Nat.reduceBEq,Nat.reduceLeDiff,Nat.reduceSub,Nat.reduceMul,Int.reduceEq,Int.reduceLT,Int.reduceLE,Int.reduceSub,Int.reduceAdd,Int.reduceToNat,reduceCtorEq,Int.reduceNeg,TF3,TF4,TF9,TF25,TF26,TF28,TF30,TF49,TF50,TF75,TF96,TF124,TF147,tcC];apply z;clear z K)
        exact aR
       ·rw [if_pos ⟨hst,by unfold possT;rw [ha,hb,hm];rfl⟩] at hR
        subst hR
        rw [hm] at hi
        (refine sQ q1Qx fun K z=>?_;simp -implicitDefEqProofs only [EV,forall_const,implies_true,Nat.reduceAdd,Nat.reduceEqDiff,Nat.reduceBEq,Nat.reduceLeDiff,Nat.reduceSub,Nat.reduceMul,Int.reduceEq,Int.reduceLT,Int.reduceLE,Int.reduceSub,Int.reduceAdd,Int.reduceToNat,reduceCtorEq,Int.reduceNeg,TF3,TF4,TF9,TF25,TF26,TF28,TF30,TF49,TF50,TF75,TF96,TF124,TF147,tcC];refine⟨_,.inl ⟨_,rfl,hox,rfl⟩,?_⟩;(try simp -implicitDefEqProofs only [EV,forall_const,implies_true,Nat.reduceAdd,Nat.reduceEqDiff,Nat.reduceBEq,Nat.reduceLeDiff,Nat.reduceSub,Nat.reduceMul,Int.reduceEq,Int.reduceLT,Int.reduceLE,Int.reduceSub,Int.reduceAdd,Int.reduceToNat,reduceCtorEq,Int.reduceNeg,TF3,TF4,TF9,TF25,TF26,TF28,TF30,TF49,TF50,TF75,TF96,TF124,TF147,tcC]);refine⟨_,.inl ⟨_,rfl,hoy,rfl⟩,?_⟩;(try simp -implicitDefEqProofs only [EV,forall_const,implies_true,Nat.reduceAdd,Nat.reduceEqDiff,Nat.reduceBEq,Nat.reduceLeDiff,Nat.reduceSub,Nat.reduceMul,Int.reduceEq,Int.reduceLT,Int.reduceLE,Int.reduceSub,Int.reduceAdd,Int.reduceToNat,reduceCtorEq,Int.reduceNeg,TF3,TF4,TF9,TF25,TF26,TF28,TF30,TF49,TF50,TF75,TF96,TF124,TF147,tcC]);refine⟨_,.inl ⟨_,rfl,hi,rfl⟩,?_⟩;(try simp -implicitDefEqProofs only [EV,forall_const,implies_true,Nat.reduceAdd,Nat.reduceEqDiff,Nat.reduceBEq,Nat.reduceLeDiff,Nat.reduceSub,Nat.reduceMul,Int.reduceEq,Int.reduceLT,Int.reduceLE,Int.reduceSub,Int.reduceAdd,Int.reduceToNat,reduceCtorEq,Int.reduceNeg,TF3,TF4,TF9,TF25,TF26,TF28,TF30,TF49,TF50,TF75,TF96,TF124,TF147,tcC]);apply z;clear z K)
        refine tI ?_
        (refine sQ q1Qx fun K z=>?_;simp -implicitDefEqProofs only [EV,forall_const,implies_true,Nat.reduceAdd,Nat.reduceEqDiff,Nat.reduceBEq,Nat.reduceLeDiff,Nat.reduceSub,Nat.reduceMul,Int.reduceEq,Int.reduceLT,Int.reduceLE,Int.reduceSub,Int.reduceAdd,Int.reduceToNat,reduceCtorEq,Int.reduceNeg,TF3,TF4,TF9,TF25,TF26,TF28,TF30,TF49,TF50,TF75,TF96,TF124,TF147,tcC];refine⟨_,.inl ⟨_,rfl,hnoE,rfl⟩,?_⟩;(try simp -implicitDefEqProofs only [EV,forall_const,implies_true,Nat.reduceAdd,Nat.reduceEqDiff,Nat.reduceBEq,Nat.reduceLeDiff,Nat.reduceSub,Nat.reduceMul,Int.reduceEq,Int.reduceLT,Int.reduceLE,Int.reduceSub,Int.reduceAdd,Int.reduceToNat,reduceCtorEq,Int.reduceNeg,TF3,TF4,TF9,TF25,TF26,TF28,TF30,TF49,TF50,TF75,TF96,TF124,TF147,tcC]);apply z;clear z K)
        exact aR
      ·have hbt:=boundT_of h0
       have hi:=ok_RImplements c.p hc.p c.env hc.el hc.env e.type x he.type hzs
       have hbi:implB c.p c.env e.type (boundT c x)=implB c.p c.env e.type x:=by rw [hbt]
       rw [← hbi] at hi
       (refine sQ q1Qx fun K z=>?_;simp -implicitDefEqProofs only [EV,forall_const,implies_true,Nat.reduceAdd,Nat.reduceEqDiff,Nat.reduceBEq,Nat.reduceLeDiff,Nat.reduceSub,Nat.reduceMul,Int.reduceEq,Int.reduceLT,Int.reduceLE,Int.reduceSub,Int.reduceAdd,Int.reduceToNat,reduceCtorEq,Int.reduceNeg,TF3,TF4,TF9,TF25,TF26,TF28,TF30,TF49,TF50,TF75,TF96,TF124,TF147,tcC,ge_iff_le,h0];apply z;clear z K)
       refine AWp.condF rfl (AWp.skip (u2 _ _ ?_))
       clear u2 K2
       rcases Bool.eq_false_or_eq_true (openT c x) with ha | ha
       rotate_left
       ·rw [if_pos ⟨hst,by unfold possT;rw [ha];rfl⟩] at hR
        subst hR
        rw [ha] at hox
        (refine sQ q1Qx fun K z=>?_;simp -implicitDefEqProofs only [EV,forall_const,implies_true,Nat.reduceAdd,Nat.reduceEqDiff,Nat.reduceBEq,Nat.reduceLeDiff,Nat.reduceSub,Nat.reduceMul,Int.reduceEq,Int.reduceLT,Int.reduceLE,Int.reduceSub,Int.reduceAdd,Int.reduceToNat,reduceCtorEq,Int.reduceNeg,TF3,TF4,TF9,TF25,TF26,TF28,TF30,TF49,TF50,TF75,TF96,TF124,TF147,tcC];refine⟨_,.inl ⟨_,rfl,hox,rfl⟩,?_⟩;(try simp -implicitDefEqProofs only [EV,forall_const,implies_true,Nat.reduceAdd,Nat.reduceEqDiff,Nat.reduceBEq,Nat.reduceLeDiff,Nat.reduceSub,Nat.reduceMul,Int.reduceEq,Int.reduceLT,Int.reduceLE,Int.reduceSub,Int.reduceAdd,Int.reduceToNat,reduceCtorEq,Int.reduceNeg,TF3,TF4,TF9,TF25,TF26,TF28,TF30,TF49,TF50,TF75,TF96,TF124,TF147,tcC]);apply z;clear z K)
        refine tI ?_
        (refine sQ q1Qx fun K z=>?_;simp -implicitDefEqProofs only [EV,forall_const,implies_true,Nat.reduceAdd,Nat.reduceEqDiff,Nat.reduceBEq,Nat.reduceLeDiff,Nat.reduceSub,Nat.reduceMul,Int.reduceEq,Int.reduceLT,Int.reduceLE,Int.reduceSub,Int.reduceAdd,Int.reduceToNat,reduceCtorEq,Int.reduceNeg,TF3,TF4,TF9,TF25,TF26,TF28,TF30,TF49,TF50,TF75,TF96,TF124,TF147,tcC];refine⟨_,.inl ⟨_,rfl,hnoE,rfl⟩,?_⟩;(try simp -implicitDefEqProofs only [EV,forall_const,implies_true,Nat.reduceAdd,Nat.reduceEqDiff,Nat.reduceBEq,Nat.reduceLeDiff,Nat.reduceSub,Nat.reduceMul,Int.reduceEq,Int.reduceLT,Int.reduceLE,Int.reduceSub,Int.reduceAdd,Int.reduceToNat,reduceCtorEq,Int.reduceNeg,TF3,TF4,TF9,TF25,TF26,TF28,TF30,TF49,TF50,TF75,TF96,TF124,TF147,tcC]);apply z;clear z K)
        exact aR
       rw [ha] at hox
       rcases Bool.eq_false_or_eq_true (openT c e.type) with hb | hb
       ·rw [if_neg (fun hh=>by have:=hh.2;unfold possT at this;rw [ha,hb] at this;cases this)] at hR
        subst hR
        rw [hb] at hoy
        (refine sQ q1Qx fun K z=>?_;simp -implicitDefEqProofs only [EV,forall_const,implies_true,Nat.reduceAdd,Nat.reduceEqDiff,Nat.reduceBEq,Nat.reduceLeDiff,Nat.reduceSub,Nat.reduceMul,Int.reduceEq,Int.reduceLT,Int.reduceLE,Int.reduceSub,Int.reduceAdd,Int.reduceToNat,reduceCtorEq,Int.reduceNeg,TF3,TF4,TF9,TF25,TF26,TF28,TF30,TF49,TF50,TF75,TF96,TF124,TF147,tcC];refine⟨_,.inl ⟨_,rfl,hox,rfl⟩,?_⟩;(try simp -implicitDefEqProofs only [EV,forall_const,implies_true,Nat.reduceAdd,Nat.reduceEqDiff,Nat.reduceBEq,Nat.reduceLeDiff,Nat.reduceSub,Nat.reduceMul,Int.reduceEq,Int.reduceLT,Int.reduceLE,Int.reduceSub,Int.reduceAdd,Int.reduceToNat,reduceCtorEq,Int.reduceNeg,TF3,TF4,TF9,TF25,TF26,TF28,TF30,TF49,TF50,TF75,TF96,TF124,TF147,tcC]);refine⟨_,.inl ⟨_,rfl,hoy,rfl⟩,?_⟩;(try simp -implicitDefEqProofs only [EV,forall_const,implies_true,Nat.reduceAdd,Nat.reduceEqDiff,Nat.reduceBEq,Nat.reduceLeDiff,Nat.reduceSub,Nat.reduceMul,Int.reduceEq,Int.reduceLT,Int.reduceLE,Int.reduceSub,Int.reduceAdd,Int.reduceToNat,reduceCtorEq,Int.reduceNeg,TF3,TF4,TF9,TF25,TF26,TF28,TF30,TF49,TF50,TF75,TF96,TF124,TF147,tcC]);apply z;clear z K)
        refine AWp.condF rfl (AWp.skip (u1 _ _ ?_))
        (refine sG q1Qx [] 4 [⟨[],[],[],[]⟩,⟨[],[],[],[]⟩,⟨[],[],[4],[]⟩,⟨[4],[],[],[]⟩] fun K z=>?_;simp -implicitDefEqProofs only [EV,forall_const,implies_true,Nat.reduceAdd,Nat.reduceEqDiff,Nat.reduceBEq,Nat.reduceLeDiff,Nat.reduceSub,Nat.reduceMul,Int.reduceEq,Int.reduceLT,Int.reduceLE,Int.reduceSub,Int.reduceAdd,Int.reduceToNat,reduceCtorEq,Int.reduceNeg,TF3,TF4,TF9,TF25,TF26,TF28,TF30,TF49,TF50,TF75,TF96,TF124,TF147,tcC];apply z;clear z K)
        exact aR
       rw [hb] at hoy
       rcases Bool.eq_false_or_eq_true (implB c.p c.env e.type (boundT c x)) with hm | hm
       ·rw [if_neg (fun hh=>by have:=hh.2;unfold possT at this;rw [ha,hb,hm] at this;cases this)] at hR
        subst hR
        rw [hm] at hi
        (refine sQ q1Qx fun K z=>?_;simp -implicitDefEqProofs only [EV,forall_const,implies_true,Nat.reduceAdd,Nat.reduceEqDiff,Nat.reduceBEq,Nat.reduceLeDiff,Nat.reduceSub,Nat.reduceMul,Int.reduceEq,Int.reduceLT,Int.reduceLE,Int.reduceSub,Int.reduceAdd,Int.reduceToNat,reduceCtorEq,Int.reduceNeg,TF3,TF4,TF9,TF25,TF26,TF28,TF30,TF49,TF50,TF75,TF96,TF124,TF147,tcC];refine⟨_,.inl ⟨_,rfl,hox,rfl⟩,?_⟩;(try simp -implicitDefEqProofs only [EV,forall_const,implies_true,Nat.reduceAdd,Nat.reduceEqDiff,Nat.reduceBEq,Nat.reduceLeDiff,Nat.reduceSub,Nat.reduceMul,Int.reduceEq,Int.reduceLT,Int.reduceLE,Int.reduceSub,Int.reduceAdd,Int.reduceToNat,reduceCtorEq,Int.reduceNeg,TF3,TF4,TF9,TF25,TF26,TF28,TF30,TF49,TF50,TF75,TF96,TF124,TF147,tcC]);refine⟨_,.inl ⟨_,rfl,hoy,rfl⟩,?_⟩;(try simp -implicitDefEqProofs only [EV,forall_const,implies_true,Nat.reduceAdd,Nat.reduceEqDiff,Nat.reduceBEq,Nat.reduceLeDiff,Nat.reduceSub,Nat.reduceMul,Int.reduceEq,Int.reduceLT,Int.reduceLE,Int.reduceSub,Int.reduceAdd,Int.reduceToNat,reduceCtorEq,Int.reduceNeg,TF3,TF4,TF9,TF25,TF26,TF28,TF30,TF49,TF50,TF75,TF96,TF124,TF147,tcC]);refine⟨_,.inl ⟨_,rfl,hi,rfl⟩,?_⟩;(try simp -implicitDefEqProofs only [EV,forall_const,implies_true,Nat.reduceAdd,Nat.reduceEqDiff,Nat.reduceBEq,Nat.reduceLeDiff,Nat.reduceSub,Nat.reduceMul,Int.reduceEq,Int.reduceLT,Int.reduceLE,Int.reduceSub,Int.reduceAdd,Int.reduceToNat,reduceCtorEq,Int.reduceNeg,TF3,TF4,TF9,TF25,TF26,TF28,TF30,TF49,TF50,TF75,TF96,TF124,TF147,tcC]);apply z;clear z K)
        refine AWp.condF rfl (AWp.skip (u1 _ _ ?_))
        (refine sG q1Qx [] 4 [⟨[],[],[],[]⟩,⟨[],[],[],[]⟩,⟨[],[],[4],[]⟩,⟨[4],[],[],[]⟩] fun K z=>?_;simp -implicitDefEqProofs only [EV,forall_const,implies_true,Nat.reduceAdd,Nat.reduceEqDiff,Nat.reduceBEq,Nat.reduceLeDiff,Nat.reduceSub,Nat.reduceMul,Int.reduceEq,Int.reduceLT,Int.reduceLE,Int.reduceSub,Int.reduceAdd,Int.reduceToNat,reduceCtorEq,Int.reduceNeg,TF3,TF4,TF9,TF25,TF26,TF28,TF30,TF49,TF50,TF75,TF96,TF124,TF147,tcC];apply z;clear z K)
        exact aR
       ·rw [if_pos ⟨hst,by unfold possT;rw [ha,hb,hm];rfl⟩] at hR
        subst hR
        rw [hm] at hi
        (refine sQ q1Qx fun K z=>?_;simp -implicitDefEqProofs only [EV,forall_const,implies_true,Nat.reduceAdd,Nat.reduceEqDiff,Nat.reduceBEq,Nat.reduceLeDiff,Nat.reduceSub,Nat.reduceMul,Int.reduceEq,Int.reduceLT,Int.reduceLE,Int.reduceSub,Int.reduceAdd,Int.reduceToNat,reduceCtorEq,Int.reduceNeg,TF3,TF4,TF9,TF25,TF26,TF28,TF30,TF49,TF50,TF75,TF96,TF124,TF147,tcC];refine⟨_,.inl ⟨_,rfl,hox,rfl⟩,?_⟩;(try simp -implicitDefEqProofs only [EV,forall_const,implies_true,Nat.reduceAdd,Nat.reduceEqDiff,Nat.reduceBEq,Nat.reduceLeDiff,Nat.reduceSub,Nat.reduceMul,Int.reduceEq,Int.reduceLT,Int.reduceLE,Int.reduceSub,Int.reduceAdd,Int.reduceToNat,reduceCtorEq,Int.reduceNeg,TF3,TF4,TF9,TF25,TF26,TF28,TF30,TF49,TF50,TF75,TF96,TF124,TF147,tcC]);refine⟨_,.inl ⟨_,rfl,hoy,rfl⟩,?_⟩;(try simp -implicitDefEqProofs only [EV,forall_const,implies_true,Nat.reduceAdd,Nat.reduceEqDiff,Nat.reduceBEq,Nat.reduceLeDiff,Nat.reduceSub,Nat.reduceMul,Int.reduceEq,Int.reduceLT,Int.reduceLE,Int.reduceSub,Int.reduceAdd,Int.reduceToNat,reduceCtorEq,Int.reduceNeg,TF3,TF4,TF9,TF25,TF26,TF28,TF30,TF49,TF50,TF75,TF96,TF124,TF147,tcC]);refine⟨_,.inl ⟨_,rfl,hi,rfl⟩,?_⟩;(try simp -implicitDefEqProofs only [EV,forall_const,implies_true,Nat.reduceAdd,Nat.reduceEqDiff,Nat.reduceBEq,Nat.reduceLeDiff,Nat.reduceSub,Nat.reduceMul,Int.reduceEq,Int.reduceLT,Int.reduceLE,Int.reduceSub,Int.reduceAdd,Int.reduceToNat,reduceCtorEq,Int.reduceNeg,TF3,TF4,TF9,TF25,TF26,TF28,TF30,TF49,TF50,TF75,TF96,TF124,TF147,tcC]);apply z;clear z K)
        refine tI ?_
        (refine sQ q1Qx fun K z=>?_;simp -implicitDefEqProofs only [EV,forall_const,implies_true,Nat.reduceAdd,Nat.reduceEqDiff,Nat.reduceBEq,Nat.reduceLeDiff,Nat.reduceSub,Nat.reduceMul,Int.reduceEq,Int.reduceLT,Int.reduceLE,Int.reduceSub,Int.reduceAdd,Int.reduceToNat,reduceCtorEq,Int.reduceNeg,TF3,TF4,TF9,TF25,TF26,TF28,TF30,TF49,TF50,TF75,TF96,TF124,TF147,tcC];refine⟨_,.inl ⟨_,rfl,hnoE,rfl⟩,?_⟩;(try simp -implicitDefEqProofs only [EV,forall_const,implies_true,Nat.reduceAdd,Nat.reduceEqDiff,Nat.reduceBEq,Nat.reduceLeDiff,Nat.reduceSub,Nat.reduceMul,Int.reduceEq,Int.reduceLT,Int.reduceLE,Int.reduceSub,Int.reduceAdd,Int.reduceToNat,reduceCtorEq,Int.reduceNeg,TF3,TF4,TF9,TF25,TF26,TF28,TF30,TF49,TF50,TF75,TF96,TF124,TF147,tcC]);apply z;clear z K)
        exact aR
end Go.Abs
