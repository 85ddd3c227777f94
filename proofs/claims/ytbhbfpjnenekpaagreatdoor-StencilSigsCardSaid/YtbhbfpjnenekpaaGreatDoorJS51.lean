/- castingsref06.RightDecl, Right -/
import Derived.Test.YtbhbfpjnenekpaaGreatDoorJS49
import Derived.Test.YtbhbfpjnenekpaaGreatDoorJS36
import Derived.Test.YtbhbfpjnenekpaaGreatDoorJS25
namespace Go.Abs
set_option linter.unusedSimpArgs false
set_option linter.unusedVariables false
open Go Go.Proofs Tryz
set_option maxRecDepth 100000
set_option maxHeartbeats 1000000
def Decl.noneB (d:Decl):Bool:=decide (d.recv=[]) && (decide (d.vars.length=0) && (sameSi d.sig sig0 && sameE d.body ex0))
def Decl.right3 (d:Decl):Bool:=if d.kind=3 then isName d.recv && (decide ((d.formals.length:Int)+(d.fields.length:Int)+(d.sigs.length:Int)=0) && (d.sig.right && d.body.right))
 else d.noneB && ((decide (d.kind=1) && decide (d.sigs.length=0)) || (decide (d.kind=2) && decide (d.fields.length=0)))
def Decl.right (d:Decl):Bool:=isName d.name && (foRight d.formals && (paRight d.fields && (d.sigs.all Sig.right && (d.vars.all isName && d.right3))))
abbrev q1V:List Nat:=[0,1,2,3,4,5,21,26,35,40,49,52]
set_option maxHeartbeats 4000000 in
theorem ok_RightDecl (d:Decl)(h:d.Sm)(hn:d.Nn):CallOK prog 75 [deV d] (boolV d.right):=by
 have h1:=ok_Is d.name
 have h2:=ok_rightFormals d.formals hn.formals
 have h3:=ok_rightParams d.fields hn.fields
 have hl1:=h.formals.1
 have hl2:=h.fields.1
 have hl3:=h.sigs.1
 have hl4:=h.vars.1
 unfold Decl.right
 refine cB func75 ?_
 refine sR q1V ?_
 (refine AWp.freeze 1 rfl rfl (wk [(1,.dptr (deC d) 0)] [] ?_))
 refine sK fun K1 u1=>?_
 rcases Bool.eq_false_or_eq_true (isName d.name) with b1 | b1
 rotate_left
 ·rw [b1] at h1
  rw [b1,Bool.false_and]
  refine sC h1 q1V ?_
  refine tI ?_
  refine sR q1V ?_
  exact aR
 rcases Bool.eq_false_or_eq_true (foRight d.formals) with b2 | b2
 rotate_left
 ·rw [b1] at h1
  rw [b2] at h2
  rw [b1,b2,Bool.false_and,Bool.true_and]
  (refine sV q1V fun K z=>?_;refine cc h1 ?_;refine cc h2 ?_;apply z;clear z K)
  refine tI ?_
  refine sR q1V ?_
  exact aR
 rcases Bool.eq_false_or_eq_true (paRight d.fields) with b3 | b3
 rotate_left
 ·rw [b1] at h1
  rw [b2] at h2
  rw [b3] at h3
  rw [b1,b2,b3,Bool.false_and,Bool.true_and,Bool.true_and]
  (refine sV q1V fun K z=>?_;refine cc h1 ?_;refine cc h2 ?_;refine cc h3 ?_;apply z;clear z K)
  refine tI ?_
  refine sR q1V ?_
  exact aR
 rw [b1] at h1
 rw [b2] at h2
 rw [b3] at h3
 rw [b1,b2,b3,Bool.true_and,Bool.true_and,Bool.true_and] at u1 ⊢
 (refine sV q1V fun K z=>?_;refine cc h1 ?_;refine cc h2 ?_;refine cc h3 ?_;apply z;clear z K)
 refine kI u1 ?_
 clear u1 K1 h1 h2 h3 b1 b2 b3
 refine kR q1V fun K1 u1=>?_
 refine AWp.block (AWp.forIdx d.sigs (X:=Unit) (fun j _=>[(1,.dptr (deC d) 0),(3,intV j)]) (fun _ _=>[])
  (fun j _=>(d.sigs.drop j).all Sig.right=d.sigs.all Sig.right) () rfl (by simp [sle,vle,sget,exC,tyC,foC,paC,siC,deC,prC]) (by simp [ble,bget,exC,tyC,foC,paC,siC,deC,prC]) ?_ ?_)
 rotate_left
 ·intro j _ s hd hmem dp tk hlt hI
  rw [dp,List.all_cons] at hI
  refine kR1 hlt q1V fun K2 u2=>?_
  refine gI u2 ?_
  clear u2 K2
  refine sK fun K2 u2=>?_
  refine AWp.block ?_
  (refine sV q1V fun K z=>?_;refine ci (siR_get hd) ?_;refine cc (ok_rightSig s (hn.sigs s hmem)) ?_;apply z;clear z K)
  refine AWp.cond rfl (fun hc=>?_) (fun hc=>?_)
  ·refine sR q1V ?_
   simp only [Bool.not_eq_true'] at hc
   rw [hc,Bool.false_and] at hI
   rw [← hI,Bool.false_and]
   exact aR
  simp only [Bool.not_eq_false'] at hc
  rw [hc,Bool.true_and] at hI
  refine AWp.skip (u2 _ _ ?_)
  clear u2 K2
  (refine lV q1V fun K z=>?_;refine cl ?_;apply z;clear z K;try simp only [thenA,blockA,if_true])
  exact⟨(),hI,(by simp [sle,vle,sget,exC,tyC,foC,paC,siC,deC,prC]),(by simp [ble,bget,exC,tyC,foC,paC,siC,deC,prC])⟩
 intro _ hI
 rw [List.drop_length,List.all_nil] at hI
 rw [← hI,Bool.true_and] at u1 ⊢
 clear hI
 refine kR1 Int.lt_irrefl q1V fun K2 u2=>?_
 refine AWp.stopK rfl ?_
 simp only [thenA,blockA,if_true]
 refine u1 _ _ ?_
 clear u2 K2 u1 K1
 refine kR q1V fun K1 u1=>?_
 refine AWp.block (AWp.forIdx d.vars (X:=Unit) (fun j _=>[(1,.dptr (deC d) 0),(4,intV j)]) (fun _ _=>[])
  (fun j _=>(d.vars.drop j).all isName=d.vars.all isName) () rfl (by simp [sle,vle,sget,exC,tyC,foC,paC,siC,deC,prC]) (by simp [ble,bget,exC,tyC,foC,paC,siC,deC,prC]) ?_ ?_)
 rotate_left
 ·intro j _ s hd hmem dp tk hlt hI
  rw [dp,List.all_cons] at hI
  refine kR1 hlt q1V fun K2 u2=>?_
  refine gI u2 ?_
  clear u2 K2
  refine sK fun K2 u2=>?_
  refine AWp.block ?_
  (refine sV q1V fun K z=>?_;refine ci (strR_get hd) ?_;refine cc (ok_Is s) ?_;apply z;clear z K)
  refine AWp.cond rfl (fun hc=>?_) (fun hc=>?_)
  ·refine sR q1V ?_
   simp only [Bool.not_eq_true'] at hc
   rw [hc,Bool.false_and] at hI
   rw [← hI,Bool.false_and]
   exact aR
  simp only [Bool.not_eq_false'] at hc
  rw [hc,Bool.true_and] at hI
  refine AWp.skip (u2 _ _ ?_)
  clear u2 K2
  (refine lV q1V fun K z=>?_;refine cl ?_;apply z;clear z K;try simp only [thenA,blockA,if_true])
  exact⟨(),hI,(by simp [sle,vle,sget,exC,tyC,foC,paC,siC,deC,prC]),(by simp [ble,bget,exC,tyC,foC,paC,siC,deC,prC])⟩
 intro _ hI
 rw [List.drop_length,List.all_nil] at hI
 rw [← hI,Bool.true_and] at u1 ⊢
 clear hI
 refine kR1 Int.lt_irrefl q1V fun K2 u2=>?_
 refine AWp.stopK rfl ?_
 simp only [thenA,blockA,if_true]
 refine u1 _ _ ?_
 clear u2 K2 u1 K1
 unfold Decl.right3
 by_cases k3:d.kind=3
 ·rw [if_pos k3]
  refine sK fun K1 u1=>?_
  have h1:=ok_Is d.recv
  have h3:=ok_rightSig d.sig hn.sig
  have h4:=ok_Right05 d.body hn.body
  refine sR1 k3 q1V ?_
  refine tI ?_
  rcases Bool.eq_false_or_eq_true (isName d.recv) with b1 | b1
  rotate_left
  ·rw [b1] at h1
   rw [b1,Bool.false_and]
   refine sC h1 q1V ?_
   exact aR
  rw [b1] at h1
  rw [b1,Bool.true_and]
  by_cases hz:(d.formals.length:Int)+(d.fields.length:Int)+(d.sigs.length:Int)=0
  rotate_left
  ·rw [decide_eq_false hz,Bool.false_and]
   (refine sQ q1V fun K z=>?_;refine ev1 hz ?_;refine⟨_,.inl ⟨_,rfl,h1,rfl⟩,?_⟩;(try refine ev1 hz ?_);refine⟨by first | (unfold InR;omega) | (simp only [InR,sm,lim] at *;omega),?_⟩;(try refine ev1 hz ?_);refine⟨by first | (unfold InR;omega) | (simp only [InR,sm,lim] at *;omega),?_⟩;(try refine ev1 hz ?_);apply z;clear z K)
   exact aR
  rw [decide_eq_true hz,Bool.true_and]
  rcases Bool.eq_false_or_eq_true d.sig.right with b3 | b3
  rotate_left
  ·rw [b3] at h3
   rw [b3,Bool.false_and]
   (refine sQ q1V fun K z=>?_;refine ev1 hz ?_;refine⟨_,.inl ⟨_,rfl,h1,rfl⟩,?_⟩;(try refine ev1 hz ?_);refine⟨by first | (unfold InR;omega) | (simp only [InR,sm,lim] at *;omega),?_⟩;(try refine ev1 hz ?_);refine⟨by first | (unfold InR;omega) | (simp only [InR,sm,lim] at *;omega),?_⟩;(try refine ev1 hz ?_);refine⟨_,.inl ⟨_,rfl,h3,rfl⟩,?_⟩;(try refine ev1 hz ?_);apply z;clear z K)
   exact aR
  rw [b3] at h3
  rw [b3,Bool.true_and]
  (refine sQ q1V fun K z=>?_;refine ev1 hz ?_;refine⟨_,.inl ⟨_,rfl,h1,rfl⟩,?_⟩;(try refine ev1 hz ?_);refine⟨by first | (unfold InR;omega) | (simp only [InR,sm,lim] at *;omega),?_⟩;(try refine ev1 hz ?_);refine⟨by first | (unfold InR;omega) | (simp only [InR,sm,lim] at *;omega),?_⟩;(try refine ev1 hz ?_);refine⟨_,.inl ⟨_,rfl,h3,rfl⟩,?_⟩;(try refine ev1 hz ?_);refine⟨_,.inl ⟨_,rfl,h4,rfl⟩,?_⟩;(try refine ev1 hz ?_);apply z;clear z K)
  exact aR
 rw [if_neg k3]
 refine kR1 k3 q1V fun K1 u1=>?_
 refine kI u1 ?_
 clear u1 K1
 refine sK fun K1 u1=>?_
 have rest:∀ sl bx,sle sl [(1,.dptr (deC d) 0),(5,boolV d.noneB)]→K1 sl bx:=by
  intro sl bx hsl
  refine u1 _ _ (AWp.weaken (bx':=[]) hsl trivial ?_)
  clear u1 K1
  rcases Bool.eq_false_or_eq_true d.noneB with b | b
  rotate_left
  ·rw [b,Bool.false_and]
   refine sR q1V ?_
   exact aR
  rw [b,Bool.true_and]
  by_cases k1:d.kind=1
  ·have k2:¬ d.kind=2:=by omega
   rw [decide_eq_true k1,Bool.true_and,decide_eq_false k2,Bool.false_and,Bool.or_false]
   by_cases hs:d.sigs.length=0
   ·have hs':(d.sigs.length:Int)=0:=by omega
    rw [decide_eq_true hs]
    refine sR2 k1 hs' q1V ?_
    exact aR
   ·have hs':¬ (d.sigs.length:Int)=0:=by omega
    have k12:¬ (1:Int)=2:=by omega
    rw [decide_eq_false hs]
    refine sR3 k1 hs' k12 q1V ?_
    exact aR
  rw [decide_eq_false k1,Bool.false_and,Bool.false_or]
  by_cases k2:d.kind=2
  ·rw [decide_eq_true k2,Bool.true_and]
   have k21:¬ (2:Int)=1:=by omega
   have e:decide (d.fields.length=0)=decide ((d.fields.length:Int)=0):=by
    by_cases hf:d.fields.length=0
    ·rw [decide_eq_true hf,decide_eq_true (by omega)]
    ·rw [decide_eq_false hf,decide_eq_false (by omega)]
   rw [e]
   refine sR3 k1 k2 k21 q1V ?_
   exact aR
  ·rw [decide_eq_false k2,Bool.false_and]
   refine sR2 k1 k2 q1V ?_
   exact aR
 have h3:=ok_RSig d.sig sig0 h.sig
 have h4:=ok_RefSame d.body h.body ex0
 unfold Decl.noneB at rest
 by_cases hr:d.recv=[]
 rotate_left
 ·rw [decide_eq_false hr,Bool.false_and] at rest
  (refine lQ q1V fun K z=>?_;refine ev1 hr ?_;apply z;clear z K;try simp only [thenA,blockA,if_true])
  exact rest _ _ (by simp [sle,vle,sget,exC,tyC,foC,paC,siC,deC,prC])
 have br:decide (d.recv=[])=true:=decide_eq_true hr
 rw [br,Bool.true_and] at rest
 by_cases hv:d.vars.length=0
 rotate_left
 ·have hv':¬ (d.vars.length:Int)=0:=by omega
  rw [decide_eq_false hv,Bool.false_and] at rest
  (refine lQ q1V fun K z=>?_;refine ev2 br hv' ?_;apply z;clear z K;try simp only [thenA,blockA,if_true])
  exact rest _ _ (by simp [sle,vle,sget,exC,tyC,foC,paC,siC,deC,prC])
 have hv':(d.vars.length:Int)=0:=by omega
 rw [decide_eq_true hv,Bool.true_and] at rest
 rcases Bool.eq_false_or_eq_true (sameSi d.sig sig0) with b3 | b3
 rotate_left
 ·rw [b3] at h3 rest
  rw [Bool.false_and] at rest
  (refine lQ q1V fun K z=>?_;refine ev2 br hv' ?_;refine⟨_,.inl ⟨_,rfl,h3,rfl⟩,?_⟩;(try refine ev2 br hv' ?_);apply z;clear z K;try simp only [thenA,blockA,if_true])
  exact rest _ _ (by simp [sle,vle,sget,exC,tyC,foC,paC,siC,deC,prC])
 rw [b3] at h3 rest
 rw [Bool.true_and] at rest
 (refine lQ q1V fun K z=>?_;refine ev2 br hv' ?_;refine⟨_,.inl ⟨_,rfl,h3,rfl⟩,?_⟩;(try refine ev2 br hv' ?_);refine⟨_,.inl ⟨_,rfl,h4,rfl⟩,?_⟩;(try refine ev2 br hv' ?_);apply z;clear z K;try simp only [thenA,blockA,if_true])
 exact rest _ _ (by simp [sle,vle,sget,exC,tyC,foC,paC,siC,deC,prC])
def Prog.right (p:Prog):Bool:=p.decls.all Decl.right && p.main.right
abbrev q2V:List Nat:=[0,1,2,3,8,17]
theorem ok_Right06 (p:Prog)(h:p.Sm)(hn:p.Nn):CallOK prog 30 [prV p] (boolV p.right):=by
 have hm:=ok_Right05 p.main hn.main
 have hpl:=h.decls.1
 unfold Prog.right
 refine cB func30 ?_
 refine sR q2V ?_
 (refine AWp.freeze 1 rfl rfl (wk [(1,.dptr (prC p) 0)] [] ?_))
 refine kR q2V fun K1 u1=>?_
 refine AWp.block (AWp.forIdx p.decls (X:=Unit) (fun j _=>[(1,.dptr (prC p) 0),(3,intV j)]) (fun _ _=>[])
  (fun j _=>(p.decls.drop j).all Decl.right=p.decls.all Decl.right) () rfl (by simp [sle,vle,sget,exC,tyC,foC,paC,siC,deC,prC]) (by simp [ble,bget,exC,tyC,foC,paC,siC,deC,prC]) ?_ ?_)
 rotate_left
 ·intro j _ s hd hmem dp tk hlt hI
  rw [dp,List.all_cons] at hI
  refine kR1 hlt q2V fun K2 u2=>?_
  refine gI u2 ?_
  clear u2 K2
  refine sK fun K2 u2=>?_
  refine AWp.block ?_
  (refine sV q2V fun K z=>?_;refine ci (deR_get hd) ?_;refine cc (ok_RightDecl s (h.decls.2 s hmem) (hn.decls s hmem)) ?_;apply z;clear z K)
  refine AWp.cond rfl (fun hc=>?_) (fun hc=>?_)
  ·refine sR q2V ?_
   simp only [Bool.not_eq_true'] at hc
   rw [hc,Bool.false_and] at hI
   rw [← hI,Bool.false_and]
   exact aR
  simp only [Bool.not_eq_false'] at hc
  rw [hc,Bool.true_and] at hI
  refine AWp.skip (u2 _ _ ?_)
  clear u2 K2
  (refine lV q2V fun K z=>?_;refine cl ?_;apply z;clear z K;try simp only [thenA,blockA,if_true])
  exact⟨(),hI,(by simp [sle,vle,sget,exC,tyC,foC,paC,siC,deC,prC]),(by simp [ble,bget,exC,tyC,foC,paC,siC,deC,prC])⟩
 intro _ hI
 rw [List.drop_length,List.all_nil] at hI
 rw [← hI,Bool.true_and] at u1 ⊢
 clear hI
 refine kR1 Int.lt_irrefl q2V fun K2 u2=>?_
 refine AWp.stopK rfl ?_
 simp only [thenA,blockA,if_true]
 refine u1 _ _ ?_
 refine sC hm q2V ?_
 exact aR
structure Res where
 pos:Int
 bad:Bool
 large:Bool
def res0:Res:=⟨0,false,false⟩
def badR (n:Int):Res:=⟨n,true,false⟩
def resO:Option Int→Res
 | none=>res0
 | some q=>badR q
abbrev rsV (r:Res):SV:=.agg [.d (.int .i64 r.pos),.d (.bool r.bad),.d (.bool r.large)]
abbrev rs0:BoxC:=.cells [.d (.int .i64 0),.d (.bool false),.d (.bool false)]
theorem ok_join (a b:List Formal)(ha:a.length≤sm)(hb:b.length≤sm):CallOK prog 258 [.d (.slice (foR a)),.d (.slice (foR b))] (.d (.slice (foR (a++b)))):=by
 rw [show foR (a++b)=foR a++foR b by simp [foR]]
 refine cB func258 ?_
 refine sR [0,1,4] ?_
 (refine AWp.seqR [0,1,4,5] [5] (by decide +kernel) fun K z=>?_;refine ev ?_;refine⟨foR_row _,by unfold lim sm at *;omega,?_⟩;(try refine ev ?_);refine⟨foR_row _,by unfold lim sm at *;omega,?_⟩;(try refine ev ?_);apply z;clear z K)
 exact aR
def freshR (p:Prog)(pre:List Formal):List Formal→Option Int
 | []=>none
 | f::fs=>if kindOf p f.name≠0∨f.name∈fnames pre then some f.pos else freshR p (pre++[f]) fs
def boundR (p:Prog)(all:List Formal):List Formal→Option Int
 | []=>none
 | f::fs=>match chk p all f.bound with
  | some q=>some q
  | none=>if isIface p all f.bound=true then boundR p all fs else some f.bound.pos
def formalsR (p:Prog)(env l:List Formal):Option Int:=match freshR p env l with
 | some q=>some q
 | none=>boundR p (env++l) l
abbrev q1Y:List Nat:=[0,1,2,3,6,7,8,9,10,11,12,16,41,54,68,79]
theorem ok_Formals15 (p:Prog)(h:p.Sm)(env l:List Formal)(hll:env.length+l.length≤sm)(he:∀ f,f∈env→f.Sm)(hl:∀ f,f∈l→f.Sm) :
  CallOK prog 203 [prV p,.d (.slice (foR env)),.d (.slice (foR l))] (rsV (resO (formalsR p env l))):=by
 have hall:∀ f,f∈env++l→f.Sm:=fun f hf=>by
  rcases List.mem_append.1 hf with h | h
  ·exact he f h
  ·exact hl f h
 have hjn:=ok_join env l (by omega) (by omega)
 unfold formalsR
 refine cB func203 ?_
 refine sR q1Y ?_
 (refine AWp.freeze 3 rfl rfl (wk [(1,.d (.slice (foR env))),(2,.d (.slice (foR l))),(3,.dptr (prC p) 0),(6,.box 6 0)] [(6,rs0)] ?_))
 refine kR q1Y fun K1 u1=>?_
 refine AWp.block (AWp.forIdx l (X:=Unit) (fun j _=>[(1,.d (.slice (foR env))),(2,.d (.slice (foR l))),(3,.dptr (prC p) 0),(6,.box 6 0),(7,intV j)]) (fun _ _=>[(6,rs0)])
  (fun j _=>freshR p (env++l.take j) (l.drop j)=freshR p env l) () (by simp) (by simp [sle,vle,sget,exC,tyC,foC,paC,siC,deC,prC]) (by simp [ble,bget,exC,tyC,foC,paC,siC,deC,prC]) ?_ ?_)
 rotate_left
 ·intro j _ d hd hmem dp tk hlt hI
  rw [dp,freshR] at hI
  have hj:CallOK prog 258 [.d (.slice (foR env)),.d (.slice ((foR l).take j))] (.d (.slice (foR (env++l.take j)))):=by
   rw [show (foR l).take j=foR (l.take j) by simp [foR,List.map_take]]
   exact ok_join env (l.take j) (by omega) (by rw [List.length_take];omega)
  have hnm:=ok_RefNames (env++l.take j) (by rw [List.length_append,List.length_take];omega)
  have hk:=ok_Kind p d.name
  have hin:=ok_In (fnames (env++l.take j)) d.name
  refine kR1 hlt q1Y fun K2 u2=>?_
  refine gI u2 ?_
  clear u2 K2
  refine sK fun K2 u2=>?_
  refine AWp.block ?_
  (refine sV q1Y fun K z=>?_;refine⟨foR_row _,by omega,by omega,?_⟩;(try refine ev ?_);refine cc hj ?_;refine cc hnm ?_;apply z;clear z K)
  by_cases hk0:kindOf p d.name=0
  rotate_left
  ·rw [if_pos (.inl hk0)] at hI
   rw [← hI]
   (refine sG q1Y [] 15 [] fun K z=>?_;refine ev1 hk0 ?_;refine⟨by omega,_,foR_get hd,rfl,?_⟩;(try refine ev1 hk0 ?_);refine⟨_,.inl ⟨_,rfl,hk,rfl⟩,?_⟩;(try refine ev1 hk0 ?_);apply z;clear z K)
   refine AWp.condT rfl ?_
   (refine sV q1Y fun K z=>?_;refine ci (foR_get hd) ?_;apply z;clear z K)
   exact aR
  by_cases hm:d.name∈fnames (env++l.take j)
  ·rw [if_pos (.inr hm)] at hI
   rw [← hI]
   rw [decide_eq_true hm] at hin
   (refine sG q1Y [] 15 [] fun K z=>?_;refine ev1 hk0 ?_;refine⟨by omega,_,foR_get hd,rfl,?_⟩;(try refine ev1 hk0 ?_);refine⟨_,.inl ⟨_,rfl,hk,rfl⟩,?_⟩;(try refine ev1 hk0 ?_);refine⟨by omega,_,foR_get hd,rfl,?_⟩;(try refine ev1 hk0 ?_);refine⟨_,.inl ⟨_,rfl,hin,rfl⟩,?_⟩;(try refine ev1 hk0 ?_);apply z;clear z K)
   refine AWp.condT rfl ?_
   (refine sV q1Y fun K z=>?_;refine ci (foR_get hd) ?_;apply z;clear z K)
   exact aR
  rw [if_neg (by rintro (h | h);exact h hk0;exact hm h)] at hI
  rw [decide_eq_false hm] at hin
  (refine sG q1Y [] 15 [] fun K z=>?_;refine ev1 hk0 ?_;refine⟨by omega,_,foR_get hd,rfl,?_⟩;(try refine ev1 hk0 ?_);refine⟨_,.inl ⟨_,rfl,hk,rfl⟩,?_⟩;(try refine ev1 hk0 ?_);refine⟨by omega,_,foR_get hd,rfl,?_⟩;(try refine ev1 hk0 ?_);refine⟨_,.inl ⟨_,rfl,hin,rfl⟩,?_⟩;(try refine ev1 hk0 ?_);apply z;clear z K)
  refine AWp.condF rfl (AWp.skip (u2 _ _ ?_))
  clear u2 K2
  (refine lV q1Y fun K z=>?_;refine cl ?_;apply z;clear z K;try simp only [thenA,blockA,if_true])
  exact⟨(),by rw [tk,← List.append_assoc];exact hI,(by simp [sle,vle,sget,exC,tyC,foC,paC,siC,deC,prC]),(by simp [ble,bget,exC,tyC,foC,paC,siC,deC,prC])⟩
 intro _ hI
 rw [List.drop_length,freshR] at hI
 rw [← hI] at u1 ⊢
 simp only
 clear hI
 refine kR1 Int.lt_irrefl q1Y fun K2 u2=>?_
 refine AWp.stopK rfl ?_
 simp only [thenA,blockA,if_true]
 refine u1 _ _ ?_
 clear u2 K2 u1 K1
 refine sC hjn q1Y ?_
 refine kR q1Y fun K1 u1=>?_
 refine AWp.block (AWp.forIdx l (X:=Unit) (fun j _=>[(2,.d (.slice (foR l))),(3,.dptr (prC p) 0),(6,.box 6 0),(9,.d (.slice (foR (env++l)))),(10,intV j)]) (fun _ _=>[(6,rs0)])
  (fun j _=>boundR p (env++l) (l.drop j)=boundR p (env++l) l) () rfl (by simp [sle,vle,sget,exC,tyC,foC,paC,siC,deC,prC]) (by simp [ble,bget,exC,tyC,foC,paC,siC,deC,prC]) ?_ ?_)
 rotate_left
 ·intro j _ d hd hmem dp tk hlt hI
  rw [dp,boundR] at hI
  have hc:=ok_RCheck p h (env++l) (by rw [List.length_append];omega) hall d.bound (hl d hmem).bound
  have hif:=ok_RIsInterface p (env++l) (by rw [List.length_append];omega) d.bound
  refine kR1 hlt q1Y fun K2 u2=>?_
  refine gI u2 ?_
  clear u2 K2
  refine sK fun K2 u2=>?_
  refine AWp.block ?_
  cases hq:chk p (env++l) d.bound with
  | some q =>
   rw [hq] at hI hc
   simp only [chkV] at hc
   rw [← hI]
   (refine sG q1Y [] 12 [] fun K z=>?_;refine ev ?_;refine ci (foR_get hd) ?_;refine cc hc ?_;apply z;clear z K)
   refine kR q1Y fun K3 u3=>?_
   refine tI ?_
   refine sR q1Y ?_
   exact aR
  | none =>
   rw [hq] at hI hc
   simp only [chkV] at hc
   simp only at hI
   (refine sG q1Y [] 12 [] fun K z=>?_;refine ev ?_;refine ci (foR_get hd) ?_;refine cc hc ?_;apply z;clear z K)
   refine kR q1Y fun K3 u3=>?_
   refine kI u3 ?_
   clear u3 K3
   rcases Bool.eq_false_or_eq_true (isIface p (env++l) d.bound) with hb | hb
   ·rw [if_pos hb] at hI
    rw [hb] at hif
    (refine sG q1Y [] 7 [] fun K z=>?_;refine ev ?_;refine ci (foR_get hd) ?_;refine cc hif ?_;apply z;clear z K)
    refine AWp.condF rfl (AWp.skip (u2 _ _ ?_))
    clear u2 K2
    (refine lV q1Y fun K z=>?_;refine cl ?_;apply z;clear z K;try simp only [thenA,blockA,if_true])
    exact⟨(),hI,(by simp [sle,vle,sget,exC,tyC,foC,paC,siC,deC,prC]),(by simp [ble,bget,exC,tyC,foC,paC,siC,deC,prC])⟩
   ·rw [if_neg (by simp [hb])] at hI
    rw [← hI]
    rw [hb] at hif
    (refine sG q1Y [] 7 [] fun K z=>?_;refine ev ?_;refine ci (foR_get hd) ?_;refine cc hif ?_;apply z;clear z K)
    refine AWp.condT rfl ?_
    (refine sV q1Y fun K z=>?_;refine ci (foR_get hd) ?_;apply z;clear z K)
    exact aR
 intro _ hI
 rw [List.drop_length,boundR] at hI
 rw [← hI] at u1 ⊢
 clear hI
 refine kR1 Int.lt_irrefl q1Y fun K2 u2=>?_
 refine AWp.stopK rfl ?_
 simp only [thenA,blockA,if_true]
 refine u1 _ _ ?_
 refine sR q1Y ?_
 exact aR
def parR (p:Prog)(env:List Formal)(pre:List Str):List Param→Option Int
 | []=>none
 | f::fs=>if f.name∈pre then some f.pos else match chk p env f.type with
  | some q=>some q
  | none=>parR p env (pre++[f.name]) fs
abbrev q2Y:List Nat:=[0,1,2,3,6,7,8,9,10,14,23,49]
theorem ok_params15 (p:Prog)(h:p.Sm)(env:List Formal)(hel:env.length≤sm)(he:∀ f,f∈env→f.Sm)(l:List Param)(hll:l.length≤sm)(hl:∀ f,f∈l→f.Sm) :
  CallOK prog 204 [prV p,.d (.slice (foR env)),.d (.slice (paR l))] (rsV (resO (parR p env [] l))):=by
 refine cB func204 ?_
 refine sR q2Y ?_
 (refine AWp.freeze 3 rfl rfl (wk [(1,.d (.slice (foR env))),(2,.d (.slice (paR l))),(3,.dptr (prC p) 0),(6,.box 6 0)] [(6,rs0)] ?_))
 refine sR q2Y ?_
 refine AWp.promote 7 1 7 rfl ?_
 refine kR q2Y fun K1 u1=>?_
 refine AWp.block (AWp.forIdx l (X:=Unit) (fun j _=>[(1,.d (.slice (foR env))),(2,.d (.slice (paR l))),(3,.dptr (prC p) 0),(6,.box 6 0),(7,.acc 7),(8,intV j)]) (fun j _=>[(6,rs0),(7,.rows 1 (strR ((l.take j).map (·.name))))])
  (fun j _=>parR p env ((l.take j).map (·.name)) (l.drop j)=parR p env [] l) () rfl (by simp [sle,vle,sget,exC,tyC,foC,paC,siC,deC,prC]) (by simp [ble,bget,berase,strR]) ?_ ?_)
 rotate_left
 ·intro j _ d hd hmem dp tk hlt hI
  rw [dp,parR] at hI
  have hin:=ok_In ((l.take j).map (·.name)) d.name
  have hc:=ok_RCheck p h env hel he d.type (hl d hmem).type
  refine kR1 hlt q2Y fun K2 u2=>?_
  refine gI u2 ?_
  clear u2 K2
  refine sK fun K2 u2=>?_
  refine AWp.block ?_
  refine sK fun K3 u3=>?_
  by_cases hm:d.name∈(l.take j).map (·.name)
  ·rw [if_pos hm] at hI
   rw [← hI]
   rw [decide_eq_true hm] at hin
   (refine sV q2Y fun K z=>?_;refine ci (paR_get hd) ?_;refine⟨_,.inr ⟨_,rfl,hin,rfl⟩,?_⟩;(try refine ev ?_);apply z;clear z K)
   refine tI ?_
   (refine sV q2Y fun K z=>?_;refine ci (paR_get hd) ?_;apply z;clear z K)
   exact aR
  rw [if_neg hm] at hI
  rw [decide_eq_false hm] at hin
  (refine sV q2Y fun K z=>?_;refine ci (paR_get hd) ?_;refine⟨_,.inr ⟨_,rfl,hin,rfl⟩,?_⟩;(try refine ev ?_);apply z;clear z K)
  refine kI u3 ?_
  clear u3 K3
  (refine sV q2Y fun K z=>?_;refine ci (paR_get hd) ?_;refine⟨by simp,by simp only [List.length_map,List.length_take];unfold lim sm at *;omega,?_⟩;(try refine ev ?_);apply z;clear z K)
  cases hq:chk p env d.type with
  | some q =>
   rw [hq] at hI hc
   simp only [chkV] at hc
   rw [← hI]
   (refine sG q2Y [] 12 [] fun K z=>?_;refine ev ?_;refine ci (paR_get hd) ?_;refine cc hc ?_;apply z;clear z K)
   refine sR q2Y ?_
   refine AWp.condT rfl ?_
   refine sR q2Y ?_
   exact aR
  | none =>
   rw [hq] at hI hc
   simp only [chkV] at hc
   simp only at hI
   (refine sG q2Y [] 12 [] fun K z=>?_;refine ev ?_;refine ci (paR_get hd) ?_;refine cc hc ?_;apply z;clear z K)
   refine sR q2Y ?_
   refine AWp.condF rfl (AWp.skip (u2 _ _ ?_))
   clear u2 K2
   (refine lV q2Y fun K z=>?_;refine cl ?_;apply z;clear z K;try simp only [thenA,blockA,if_true])
   exact⟨(),by rw [tk,List.map_append];exact hI,(by simp [sle,vle,sget,exC,tyC,foC,paC,siC,deC,prC]),by rw [tk,List.map_append];simp [ble,bget,berase,strR]⟩
 intro _ hI
 rw [List.drop_length,parR] at hI
 rw [← hI] at u1 ⊢
 clear hI
 refine kR1 Int.lt_irrefl q2Y fun K2 u2=>?_
 refine AWp.stopK rfl ?_
 simp only [thenA,blockA,if_true]
 refine u1 _ _ ?_
 refine sR q2Y ?_
 exact aR
def sigR (p:Prog)(env:List Formal)(s:Sig):Option Int:=match formalsR p env s.formals with
 | some q=>some q
 | none=>match parR p (env++s.formals) [] s.params with
  | some q=>some q
  | none=>chk p (env++s.formals) s.result
abbrev q3Y:List Nat:=[0,1,2,3,5,6,7,8,9,10,22,29,39]
theorem ok_Sig15 (p:Prog)(h:p.Sm)(env:List Formal)(s:Sig)(hll:env.length+s.formals.length≤sm)(he:∀ f,f∈env→f.Sm)(hs:s.Sm) :
  CallOK prog 207 [prV p,.d (.slice (foR env)),siV s] (rsV (resO (sigR p env s))):=by
 have hall:∀ f,f∈env++s.formals→f.Sm:=fun f hf=>by
  rcases List.mem_append.1 hf with h | h
  ·exact he f h
  ·exact hs.formals.2 f h
 have hal:(env++s.formals).length≤sm:=by rw [List.length_append];exact hll
 have hjn:=ok_join env s.formals (by omega) (by omega)
 have h1:=ok_Formals15 p h env s.formals hll he hs.formals.2
 have h2:=ok_params15 p h (env++s.formals) hal hall s.params hs.params.1 hs.params.2
 have h3:=ok_RCheck p h (env++s.formals) hal hall s.result hs.result
 generalize hR:sigR p env s=R
 refine cB func207 ?_
 refine sR q3Y ?_
 cases hf:formalsR p env s.formals with
 | some q =>
  rw [hf] at h1
  obtain rfl:R=some q:=by rw [← hR];unfold sigR;rw [hf]
  refine sC h1 q3Y ?_
  refine sC hjn q3Y ?_
  refine kR q3Y fun K1 u1=>?_
  refine AWp.condF rfl (AWp.skip (u1 _ _ ?_))
  clear u1 K1
  refine kR q3Y fun K1 u1=>?_
  refine tI ?_
  refine sR q3Y ?_
  exact aR
 | none =>
  rw [hf] at h1
  refine sC h1 q3Y ?_
  refine sC hjn q3Y ?_
  refine kR q3Y fun K1 u1=>?_
  cases hp:parR p (env++s.formals) [] s.params with
  | some q =>
   rw [hp] at h2
   obtain rfl:R=some q:=by rw [← hR];unfold sigR;rw [hf];simp only [hp]
   refine AWp.condT rfl ?_
   (refine lV q3Y fun K z=>?_;refine cc h2 ?_;apply z;clear z K;try simp only [thenA,blockA,if_true])
   refine u1 _ _ ?_
   clear u1 K1
   refine kR q3Y fun K1 u1=>?_
   refine tI ?_
   refine sR q3Y ?_
   exact aR
  | none =>
   rw [hp] at h2
   refine AWp.condT rfl ?_
   (refine lV q3Y fun K z=>?_;refine cc h2 ?_;apply z;clear z K;try simp only [thenA,blockA,if_true])
   refine u1 _ _ ?_
   clear u1 K1
   refine kR q3Y fun K1 u1=>?_
   refine kI u1 ?_
   clear u1 K1
   cases hq:chk p (env++s.formals) s.result with
   | some q =>
    rw [hq] at h3
    obtain rfl:R=some q:=by rw [← hR];unfold sigR;rw [hf];simp only [hp,hq]
    refine sC h3 q3Y ?_
    refine kR q3Y fun K1 u1=>?_
    refine tI ?_
    refine sR q3Y ?_
    exact aR
   | none =>
    rw [hq] at h3
    obtain rfl:R=none:=by rw [← hR];unfold sigR;rw [hf];simp only [hp,hq]
    refine sC h3 q3Y ?_
    refine kR q3Y fun K1 u1=>?_
    refine kI u1 ?_
    refine sR q3Y ?_
    exact aR
end Go.Abs
