/- castingsref06.RightDecl, Right -/
import Derived.Test.YtdohpbjgaaneeaaGreatDoorQS49
import Derived.Test.YtdohpbjgaaneeaaGreatDoorQS36
import Derived.Test.YtdohpbjgaaneeaaGreatDoorQS25
namespace Go.Abs
set_option linter.unusedSimpArgs false
set_option linter.unusedVariables false
open Go Go.Proofs Tryz
set_option maxRecDepth 100000
set_option maxHeartbeats 1000000
def Decl.noneB (d:Decl):Bool:=decide (d.recv=[]) && (decide (d.vars.length=0) && (sameSi d.sig sig0 && sameE d.body ex0))
def Decl.right3 (d:Decl):Bool:=if d.kind=3 then isName d.recv && (decide ((d.formals.length:Int)+(d.fields.length:Int)+(d.sigs.length:Int)=0) && (d.sig.right && d.body.right))
 else d.noneB && ((decide (d.kind=1) && decide (d.sigs.length=0)) || (decide (d.kind=2) && decide (d.fields.length=0)))
def Decl.right (d:Decl):Bool:=isName d.name && (foRight d.formals && (paRight d.fields && (d.sigs.all Sig.right && (d.vars.all isName && d.right3))))
abbrev q1ix:List Nat:=[0,1,2,3,4,5,21,26,35,40,49,52]
set_option maxHeartbeats 4000000 in
theorem ok_RightDecl (d:Decl)(h:d.Sm)(hn:d.Nn):CallOK prog 99 [deV d] (boolV d.right):=by
 have h1:=ok_Is d.name
 have h2:=ok_rightFormals d.formals hn.formals
 have h3:=ok_rightParams d.fields hn.fields
 have hl1:=h.formals.1
 have hl2:=h.fields.1
 have hl3:=h.sigs.1
 have hl4:=h.vars.1
 unfold Decl.right
 refine cB func99 ?_
 refine sR q1ix ?_
 (refine AWp.freeze 1 rfl rfl (wk [(1,.dptr (deC d) 0)] [] ?_))
 refine sK fun K1 u1=>?_
 rcases Bool.eq_false_or_eq_true (isName d.name) with b1 | b1
 rotate_left
 ·rw [b1] at h1
  rw [b1,Bool.false_and]
  refine sC h1 q1ix ?_
  refine tI ?_
  refine sR q1ix ?_
  exact aR
 rcases Bool.eq_false_or_eq_true (foRight d.formals) with b2 | b2
 rotate_left
 ·rw [b1] at h1
  rw [b2] at h2
  rw [b1,b2,Bool.false_and,Bool.true_and]
  (refine sV q1ix fun K z=>?_;refine cc h1 ?_;refine cc h2 ?_;apply z;clear z K)
  refine tI ?_
  refine sR q1ix ?_
  exact aR
 rcases Bool.eq_false_or_eq_true (paRight d.fields) with b3 | b3
 rotate_left
 ·rw [b1] at h1
  rw [b2] at h2
  rw [b3] at h3
  rw [b1,b2,b3,Bool.false_and,Bool.true_and,Bool.true_and]
  (refine sV q1ix fun K z=>?_;refine cc h1 ?_;refine cc h2 ?_;refine cc h3 ?_;apply z;clear z K)
  refine tI ?_
  refine sR q1ix ?_
  exact aR
 rw [b1] at h1
 rw [b2] at h2
 rw [b3] at h3
 rw [b1,b2,b3,Bool.true_and,Bool.true_and,Bool.true_and] at u1 ⊢
 (refine sV q1ix fun K z=>?_;refine cc h1 ?_;refine cc h2 ?_;refine cc h3 ?_;apply z;clear z K)
 refine kI u1 ?_
 clear u1 K1 h1 h2 h3 b1 b2 b3
 refine kR q1ix fun K1 u1=>?_
 refine AWp.block (AWp.forIdx d.sigs (X:=Unit) (fun j _=>[(1,.dptr (deC d) 0),(3,intV j)]) (fun _ _=>[])
  (fun j _=>(d.sigs.drop j).all Sig.right=d.sigs.all Sig.right) () rfl (by simp [sle,vle,sget,deC]) sB ?_ ?_)
 rotate_left
 ·intro j _ s hd hmem dp tk hlt hI
  rw [dp,List.all_cons] at hI
  refine kR1 hlt q1ix fun K2 u2=>?_
  refine gI u2 ?_
  clear u2 K2
  refine sK fun K2 u2=>?_
  refine AWp.block ?_
  (refine sV q1ix fun K z=>?_;refine ci (siR_get hd) ?_;refine cc (ok_rightSig s (hn.sigs s hmem)) ?_;apply z;clear z K)
  refine AWp.cond rfl (fun hc=>?_) (fun hc=>?_)
  ·refine sR q1ix ?_
   simp only [Bool.not_eq_true'] at hc
   rw [hc,Bool.false_and] at hI
   rw [← hI,Bool.false_and]
   exact aR
  simp only [Bool.not_eq_false'] at hc
  rw [hc,Bool.true_and] at hI
  refine AWp.skip (u2 _ _ ?_)
  clear u2 K2
  refine lT q1ix ?_
  exact⟨(),hI,(by simp [sle,vle,sget,deC]),sB⟩
 intro _ hI
 rw [List.drop_length,List.all_nil] at hI
 rw [← hI,Bool.true_and] at u1 ⊢
 clear hI
 refine kR1 Int.lt_irrefl q1ix fun K2 u2=>?_
 refine AWp.stopK rfl ?_
 simp only [thenA,blockA,if_true]
 refine u1 _ _ ?_
 clear u2 K2 u1 K1
 refine kR q1ix fun K1 u1=>?_
 refine AWp.block (AWp.forIdx d.vars (X:=Unit) (fun j _=>[(1,.dptr (deC d) 0),(4,intV j)]) (fun _ _=>[])
  (fun j _=>(d.vars.drop j).all isName=d.vars.all isName) () rfl (by simp [sle,vle,sget,deC]) sB ?_ ?_)
 rotate_left
 ·intro j _ s hd hmem dp tk hlt hI
  rw [dp,List.all_cons] at hI
  refine kR1 hlt q1ix fun K2 u2=>?_
  refine gI u2 ?_
  clear u2 K2
  refine sK fun K2 u2=>?_
  refine AWp.block ?_
  (refine sV q1ix fun K z=>?_;refine ci (strR_get hd) ?_;refine cc (ok_Is s) ?_;apply z;clear z K)
  refine AWp.cond rfl (fun hc=>?_) (fun hc=>?_)
  ·refine sR q1ix ?_
   simp only [Bool.not_eq_true'] at hc
   rw [hc,Bool.false_and] at hI
   rw [← hI,Bool.false_and]
   exact aR
  simp only [Bool.not_eq_false'] at hc
  rw [hc,Bool.true_and] at hI
  refine AWp.skip (u2 _ _ ?_)
  clear u2 K2
  refine lT q1ix ?_
  exact⟨(),hI,(by simp [sle,vle,sget,deC]),sB⟩
 intro _ hI
 rw [List.drop_length,List.all_nil] at hI
 rw [← hI,Bool.true_and] at u1 ⊢
 clear hI
 refine kR1 Int.lt_irrefl q1ix fun K2 u2=>?_
 refine AWp.stopK rfl ?_
 simp only [thenA,blockA,if_true]
 refine u1 _ _ ?_
 clear u2 K2 u1 K1
 unfold Decl.right3
 by_cases k3:d.kind=3
 ·rw [if_pos k3]
  refine sK fun K1 u1=>?_
  have h1:=ok_Is d.recv
  have h3:=ok_rightSig d.sig hn.sig
  have h4:=ok_Right05 d.body hn.body
  refine sR1 k3 q1ix ?_
  refine tI ?_
  rcases Bool.eq_false_or_eq_true (isName d.recv) with b1 | b1
  rotate_left
  ·rw [b1] at h1
   rw [b1,Bool.false_and]
   refine sC h1 q1ix ?_
   exact aR
  rw [b1] at h1
  rw [b1,Bool.true_and]
  by_cases hz:(d.formals.length:Int)+(d.fields.length:Int)+(d.sigs.length:Int)=0
  rotate_left
  ·rw [decide_eq_false hz,Bool.false_and]
   (refine sV q1ix fun K z=>?_;refine⟨_,.inl ⟨_,rfl,h1,rfl⟩,?_⟩;(try refine ev1 hz ?_);refine⟨by first | (unfold InR;omega) | (simp only [InR,sm] at *;omega),?_⟩;(try refine ev1 hz ?_);refine⟨by first | (unfold InR;omega) | (simp only [InR,sm] at *;omega),?_⟩;(try refine ev1 hz ?_);apply z;clear z K)
   exact aR
  rw [decide_eq_true hz,Bool.true_and]
  rcases Bool.eq_false_or_eq_true d.sig.right with b3 | b3
  rotate_left
  ·rw [b3] at h3
   rw [b3,Bool.false_and]
   (refine sV q1ix fun K z=>?_;refine⟨_,.inl ⟨_,rfl,h1,rfl⟩,?_⟩;(try refine ev1 hz ?_);refine⟨by first | (unfold InR;omega) | (simp only [InR,sm,lim] at *;omega),?_⟩;(try refine ev1 hz ?_);refine⟨by first | (unfold InR;omega) | (simp only [InR,sm,lim] at *;omega),?_⟩;(try refine ev1 hz ?_);refine cc h3 ?_;apply z;clear z K)
   exact aR
  rw [b3] at h3
  rw [b3,Bool.true_and]
  (refine sV q1ix fun K z=>?_;refine⟨_,.inl ⟨_,rfl,h1,rfl⟩,?_⟩;(try refine ev1 hz ?_);refine⟨by first | (unfold InR;omega) | (simp only [InR,sm,lim] at *;omega),?_⟩;(try refine ev1 hz ?_);refine⟨by first | (unfold InR;omega) | (simp only [InR,sm,lim] at *;omega),?_⟩;(try refine ev1 hz ?_);refine cc h3 ?_;refine cc h4 ?_;apply z;clear z K)
  exact aR
 rw [if_neg k3]
 refine kR1 k3 q1ix fun K1 u1=>?_
 refine kI u1 ?_
 clear u1 K1
 refine sK fun K1 u1=>?_
 have rest:∀ sl bx,sle sl [(1,.dptr (deC d) 0),(5,boolV d.noneB)]→K1 sl bx:=by
  intro sl bx hsl
  refine u1 _ _ (AWp.weaken (bx':=[]) hsl trivial ?_)
  clear u1 K1
  rcases Bool.eq_false_or_eq_true d.noneB with b | b
  rotate_left
  ·rw [b,Bool.false_and]
   refine sR q1ix ?_
   exact aR
  rw [b,Bool.true_and]
  by_cases k1:d.kind=1
  ·have k2:¬ d.kind=2:=by omega
   rw [decide_eq_true k1,Bool.true_and,decide_eq_false k2,Bool.false_and,Bool.or_false]
   by_cases hs:d.sigs.length=0
   ·have hs':(d.sigs.length:Int)=0:=by omega
    rw [decide_eq_true hs]
    refine sR2 k1 hs' q1ix ?_
    exact aR
   ·have hs':¬ (d.sigs.length:Int)=0:=by omega
    have k12:¬ (1:Int)=2:=by omega
    rw [decide_eq_false hs]
    refine sR3 k1 hs' k12 q1ix ?_
    exact aR
  rw [decide_eq_false k1,Bool.false_and,Bool.false_or]
  by_cases k2:d.kind=2
  ·rw [decide_eq_true k2,Bool.true_and]
   have k21:¬ (2:Int)=1:=by omega
   have e:decide (d.fields.length=0)=decide ((d.fields.length:Int)=0):=by
    by_cases hf:d.fields.length=0
    ·rw [decide_eq_true hf,decide_eq_true (by omega)]
    ·rw [decide_eq_false hf,decide_eq_false (by omega)]
   rw [e]
   refine sR2 k2 k21 q1ix ?_
   exact aR
  ·rw [decide_eq_false k2,Bool.false_and]
   refine sR2 k1 k2 q1ix ?_
   exact aR
 have h3:=ok_RSig d.sig sig0 h.sig
 have h4:=ok_RefSame d.body h.body ex0
 unfold Decl.noneB at rest
 by_cases hr:d.recv=[]
 rotate_left
 ·rw [decide_eq_false hr,Bool.false_and] at rest
  (refine lQ q1ix fun K z=>?_;refine ev1 hr ?_;apply z;clear z K;try simp only [thenA,])
  exact rest _ _ (by simp [sle,vle,sget,deC])
 have br:decide (d.recv=[])=true:=decide_eq_true hr
 rw [br,Bool.true_and] at rest
 by_cases hv:d.vars.length=0
 rotate_left
 ·have hv':¬ (d.vars.length:Int)=0:=by omega
  rw [decide_eq_false hv,Bool.false_and] at rest
  (refine lQ q1ix fun K z=>?_;refine ev2 br hv' ?_;apply z;clear z K;try simp only [thenA,])
  exact rest _ _ (by simp [sle,vle,sget,deC])
 have hv':(d.vars.length:Int)=0:=by omega
 rw [decide_eq_true hv,Bool.true_and] at rest
 rcases Bool.eq_false_or_eq_true (sameSi d.sig sig0) with b3 | b3
 rotate_left
 ·rw [b3] at h3 rest
  rw [Bool.false_and] at rest
  (refine lQ q1ix fun K z=>?_;refine ev2 br hv' ?_;refine cc h3 ?_;apply z;clear z K;try simp only [thenA,])
  exact rest _ _ (by simp [sle,vle,sget,deC])
 rw [b3] at h3 rest
 rw [Bool.true_and] at rest
 (refine lQ q1ix fun K z=>?_;refine ev2 br hv' ?_;refine cc h3 ?_;refine cc h4 ?_;apply z;clear z K;try simp only [thenA,])
 exact rest _ _ (by simp [sle,vle,sget,deC])
def Prog.right (p:Prog):Bool:=p.decls.all Decl.right && p.main.right
abbrev q2ix:List Nat:=[0,1,2,3,8,17]
theorem ok_Right06 (p:Prog)(h:p.Sm)(hn:p.Nn):CallOK prog 44 [prV p] (boolV p.right):=by
 have hm:=ok_Right05 p.main hn.main
 have hpl:=h.decls.1
 unfold Prog.right
 refine cB func44 ?_
 refine sR q2ix ?_
 (refine AWp.freeze 1 rfl rfl (wk [(1,.dptr (prC p) 0)] [] ?_))
 refine kR q2ix fun K1 u1=>?_
 refine AWp.block (AWp.forIdx p.decls (X:=Unit) (fun j _=>[(1,.dptr (prC p) 0),(3,intV j)]) (fun _ _=>[])
  (fun j _=>(p.decls.drop j).all Decl.right=p.decls.all Decl.right) () rfl (by simp [sle,vle,sget,prC]) sB ?_ ?_)
 rotate_left
 ·intro j _ s hd hmem dp tk hlt hI
  rw [dp,List.all_cons] at hI
  refine kR1 hlt q2ix fun K2 u2=>?_
  refine gI u2 ?_
  clear u2 K2
  refine sK fun K2 u2=>?_
  refine AWp.block ?_
  (refine sV q2ix fun K z=>?_;refine ci (deR_get hd) ?_;refine cc (ok_RightDecl s (h.decls.2 s hmem) (hn.decls s hmem)) ?_;apply z;clear z K)
  refine AWp.cond rfl (fun hc=>?_) (fun hc=>?_)
  ·refine sR q2ix ?_
   simp only [Bool.not_eq_true'] at hc
   rw [hc,Bool.false_and] at hI
   rw [← hI,Bool.false_and]
   exact aR
  simp only [Bool.not_eq_false'] at hc
  rw [hc,Bool.true_and] at hI
  refine AWp.skip (u2 _ _ ?_)
  clear u2 K2
  refine lT q2ix ?_
  exact⟨(),hI,(by simp [sle,vle,sget,prC]),sB⟩
 intro _ hI
 rw [List.drop_length,List.all_nil] at hI
 rw [← hI,Bool.true_and] at u1 ⊢
 clear hI
 refine kR1 Int.lt_irrefl q2ix fun K2 u2=>?_
 refine AWp.stopK rfl ?_
 simp only [thenA,blockA,if_true]
 refine u1 _ _ ?_
 refine sC hm q2ix ?_
 exact aR
structure Res where
 pos:Int
 bad:Bool
 large:Bool
def badR (n:Int):Res:=⟨n,true,false⟩
end Go.Abs
