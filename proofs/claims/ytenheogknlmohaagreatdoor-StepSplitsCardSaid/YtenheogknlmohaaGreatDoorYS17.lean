/- methods and signatures of a type: castingsref11.FindMethod, Method, Methods, Specs; table.Methods, Specs -/
import Derived.Test.YtenheogknlmohaaGreatDoorYS15
import Derived.Test.YtenheogknlmohaaGreatDoorYS16
namespace Go.Abs
set_option linter.unusedSimpArgs false
set_option linter.unusedVariables false
open Go Go.Proofs
set_option maxRecDepth 100000
set_option maxHeartbeats 1000000
def keyM (nm m:Str)(d:Decl):Bool:=decide (d.kind=3) && decide (d.name=nm) && decide (d.sig.name=m)
def methI (p:Prog)(nm m:Str):Int:=idxF (keyM nm m) p.decls
theorem idxF_cases {α:Type} (q:α→Bool)(l:List α):(idxF q l = -1∧∀ x,x∈l→q x=false)∨∃ (j:Nat)(x:α),idxF q l=j∧l[j]? = some x∧q x=true:=by
 unfold idxF
 cases h:l.findIdx? q with
 | none=>exact .inl ⟨rfl,by simpa [List.findIdx?_eq_none_iff] using h⟩
 | some j =>
  obtain⟨h1,h2,_⟩:=List.findIdx?_eq_some_iff_getElem.1 h
  exact .inr ⟨j,l[j],rfl,List.getElem?_eq_getElem h1,h2⟩
theorem ok_FindMethod (p:Prog)(hl:p.decls.length≤sm)(nm m:Str):CallOK Tryz.prog 142 [prV p,strV nm,strV m] (intV (methI p nm m)):=by
 unfold methI
 (refine CallOK.of_body Tryz.func142 rfl (by decide) (by rw [Tryz.ntmps142];simp) ?_;rw [Tryz.ntmps142])
 (refine AWp.seqR [0,1,2,3,6,7,12,42] [] (by decide +kernel) fun K hK=>?_;simp -implicitDefEqProofs only [EV,Nat.reduceAdd,Nat.reduceEqDiff,Nat.reduceLeDiff,reduceCtorEq,];refine hK _ _ ?_;clear hK K)
 refine AWp.seqK fun K1 hK1=>?_
 (refine AWp.seqR [0,1,2,3,6,7,12,42] [] (by decide +kernel) fun K hK=>?_;simp -implicitDefEqProofs only [EV,Nat.reduceEqDiff,reduceCtorEq,];refine hK _ _ ?_;clear hK K)
 refine AWp.block (AWp.forIdx p.decls (X:=Unit) (fun j _=>[(1,strV nm),(2,strV m),(3,.box 3 0),(7,intV j)]) (fun _ _=>[(3,.cells ((prC p).map .d))])
  (fun j _=>∀ y,y∈p.decls.take j→keyM nm m y=false) () (by simp) (by simp [sle,vle,sget]) (by simp [ble,bget,prC]) ?_ ?_)
 ·intro _ hI
  rw [List.take_length] at hI
  refine AWp.seqK fun K2 hK2=>?_
  (refine AWp.seqR [0,1,2,3,6,7,12,42] [] (by decide +kernel) fun K hK=>?_;simp -implicitDefEqProofs only [EV,Nat.reduceEqDiff,reduceCtorEq,TF22,TF30,Int.lt_irrefl];refine hK _ _ ?_;clear hK K)
  refine AWp.stopK rfl ?_
  simp only [thenA,blockA,if_true]
  refine hK1 _ _ ?_
  (refine AWp.seqR [0,1,2,3,6,7,12,42] [] (by decide +kernel) fun K hK=>?_;simp -implicitDefEqProofs only [EV,Nat.reduceEqDiff,reduceCtorEq,Int.reduceNeg,];refine hK _ _ ?_;clear hK K)
  rw [idxF_none hI]
  exact AWp.ret ⟨_,by rw [Tryz.results142];rfl,rfl⟩
 ·intro j _ d hd hmem hdrop htake hlt hI
  refine AWp.seqK fun K2 hK2=>?_
  (refine AWp.seqR [0,1,2,3,6,7,12,42] [] (by decide +kernel) fun K hK=>?_;simp -implicitDefEqProofs only [EV,Nat.reduceEqDiff,reduceCtorEq,TF22,TF30,hlt];refine hK _ _ ?_;clear hK K)
  refine AWp.goOnK rfl hK2 ?_
  clear hK2 K2
  refine AWp.seqK fun K2 hK2=>?_
  refine AWp.block ?_
  have fin:∀ sl bx,keyM nm m d=false→sget sl 1=strV nm→sget sl 2=strV m→sget sl 3=.box 3 0→sget sl 7=intV j→bget bx 3=some (.cells ((prC p).map .d))→K2 sl bx:=fun sl bx hk g1 g2 g3 g4 g5=>by
   refine hK2 _ _ ?_
   refine AWp.weaken (sl':=[(1,strV nm),(2,strV m),(3,.box 3 0),(7,intV j)]) (bx':=[(3,.cells ((prC p).map .d))]) (by simp [sle,vle,g1,g2,g3,g4]) (by simp [ble,g5]) ?_
   (refine AWp.lastR [0,1,2,3,6,7,12,42] [] (by decide +kernel) fun K hK=>?_;simp -implicitDefEqProofs only [EV,Nat.reduceEqDiff,reduceCtorEq,];refine⟨by first | (unfold InR;omega) | (simp only [InR,sm] at *;omega),?_⟩;(try simp -implicitDefEqProofs only [EV,forall_const,implies_true,Nat.reduceAdd,Nat.reduceEqDiff,Nat.reduceBEq,Nat.reduceLeDiff,Nat.reduceSub,Nat.reduceMul,Int.reduceEq,Int.reduceLT,Int.reduceLE,Int.reduceSub,Int.reduceAdd,Int.reduceToNat,reduceCtorEq,Int.reduceNeg,TF3,TF4,TF9,TF22,TF30,TF78,TF80]);refine hK _ _ ?_;clear hK K;try simp only [thenA,])
   refine⟨(),?_,(by simp [sle,vle,sget]),(by simp [ble,bget,prC])⟩
   rw [htake]
   intro y hy
   rcases List.mem_append.1 hy with hy | hy
   ·exact hI y hy
   ·simp only [List.mem_cons,List.not_mem_nil,or_false] at hy
    rw [hy];exact hk
  by_cases h1:d.kind=3
  ·by_cases h2:d.name=nm
   ·by_cases h3:d.sig.name=m
    ·(refine AWp.seqR [0,1,2,3,6,7,12,42] [] (by decide +kernel) fun K hK=>?_;simp -implicitDefEqProofs only [EV,Nat.reduceEqDiff,reduceCtorEq,TF3,TF22,TF30,TF80,];refine⟨by omega,_,deR_get hd,rfl,?_⟩;(try simp -implicitDefEqProofs only [EV,Nat.reduceEqDiff,reduceCtorEq,TF9,TF22,TF30,TF80,h1,h2,h3]);refine⟨by omega,_,deR_get hd,rfl,?_⟩;(try simp -implicitDefEqProofs only [EV,Nat.reduceEqDiff,reduceCtorEq,TF9,TF22,TF30,TF78,TF80,h1,h2,h3]);refine⟨by omega,_,deR_get hd,rfl,?_⟩;(try simp -implicitDefEqProofs only [EV,Nat.reduceEqDiff,reduceCtorEq,h1,h2,h3]);refine hK _ _ ?_;clear hK K)
     refine AWp.condT rfl ?_
     (refine AWp.seqR [0,1,2,3,6,7,12,42] [] (by decide +kernel) fun K hK=>?_;simp -implicitDefEqProofs only [EV,Nat.reduceEqDiff,reduceCtorEq,];refine hK _ _ ?_;clear hK K)
     rw [idxF_some hd (by simp [keyM,h1,h2,h3]) hI]
     exact AWp.ret ⟨_,by rw [Tryz.results142];rfl,rfl⟩
    ·(refine AWp.seqR [0,1,2,3,6,7,12,42] [] (by decide +kernel) fun K hK=>?_;simp -implicitDefEqProofs only [EV,Nat.reduceEqDiff,reduceCtorEq,TF3,TF22,TF30,TF80,];refine⟨by omega,_,deR_get hd,rfl,?_⟩;(try simp -implicitDefEqProofs only [EV,Nat.reduceEqDiff,reduceCtorEq,TF9,TF22,TF30,TF80,h1,h2]);refine⟨by omega,_,deR_get hd,rfl,?_⟩;(try simp -implicitDefEqProofs only [EV,Nat.reduceEqDiff,reduceCtorEq,TF9,TF22,TF30,TF78,TF80,h1,h2]);refine⟨by omega,_,deR_get hd,rfl,?_⟩;(try simp -implicitDefEqProofs only [EV,Nat.reduceEqDiff,reduceCtorEq,h1,h2,h3]);refine hK _ _ ?_;clear hK K)
     refine AWp.condF rfl (AWp.skip (fin _ _ (by simp [keyM,h3]) rfl rfl rfl rfl rfl))
   ·(refine AWp.seqR [0,1,2,3,6,7,12,42] [] (by decide +kernel) fun K hK=>?_;simp -implicitDefEqProofs only [EV,Nat.reduceEqDiff,reduceCtorEq,TF3,TF22,TF30,TF80,];refine⟨by omega,_,deR_get hd,rfl,?_⟩;(try simp -implicitDefEqProofs only [EV,Nat.reduceEqDiff,reduceCtorEq,TF9,TF22,TF30,TF80,h1]);refine⟨by omega,_,deR_get hd,rfl,?_⟩;(try simp -implicitDefEqProofs only [EV,Nat.reduceEqDiff,reduceCtorEq,h1,h2]);refine hK _ _ ?_;clear hK K)
    refine AWp.condF rfl (AWp.skip (fin _ _ (by simp [keyM,h2]) rfl rfl rfl rfl rfl))
  ·(refine AWp.seqR [0,1,2,3,6,7,12,42] [] (by decide +kernel) fun K hK=>?_;simp -implicitDefEqProofs only [EV,Nat.reduceEqDiff,reduceCtorEq,TF3,TF22,TF30,TF80];refine⟨by omega,_,deR_get hd,rfl,?_⟩;(try simp -implicitDefEqProofs only [EV,Nat.reduceEqDiff,reduceCtorEq,h1]);refine hK _ _ ?_;clear hK K)
   refine AWp.condF rfl (AWp.skip (fin _ _ (by simp [keyM,h1]) rfl rfl rfl rfl rfl))
def methP (p:Prog)(x:Ty)(m:Str):Int:=if instB p x 1=true then (match p.decls[(methI p x.name m).toNat]? with
 | some d=>if 0≤methI p x.name m∧d.vars.length=x.args.length then methI p x.name m else -1
 | none=>-1) else -1
theorem ok_Method (p:Prog)(hl:p.decls.length≤sm)(x:Ty)(m:Str):CallOK Tryz.prog 95 [prV p,tyV x,strV m] (intV (methP p x m)):=by
 have hf:=ok_FindMethod p hl x.name m
 have hi:=ok_RefInstance p x 1
 unfold methP
 have hc:=idxF_cases (keyM x.name m) p.decls
 unfold methI at *
 generalize idxF (keyM x.name m) p.decls=k at *
 (refine CallOK.of_body Tryz.func95 rfl (by decide) (by rw [Tryz.ntmps95];simp) ?_;rw [Tryz.ntmps95])
 (refine AWp.seqR [0,1,2,3,4,6,7,33] [] (by decide +kernel) fun K hK=>?_;simp -implicitDefEqProofs only [EV,Nat.reduceAdd,Nat.reduceEqDiff,Nat.reduceBEq,Nat.reduceLeDiff,reduceCtorEq,];refine hK _ _ ?_;clear hK K)
 (refine AWp.seqR [0,1,2,3,4,6,7,33] [] (by decide +kernel) fun K hK=>?_;simp -implicitDefEqProofs only [EV,Nat.reduceAdd,Nat.reduceEqDiff,reduceCtorEq,TF9,TF25,TF30,];refine⟨_,.inl ⟨_,rfl,hf,rfl⟩,?_⟩;(try simp -implicitDefEqProofs only [EV,]);refine hK _ _ ?_;clear hK K)
 rcases Bool.eq_false_or_eq_true (instB p x 1) with h1 | h1
 ·rw [h1] at hi
  rw [if_pos h1]
  rcases hc with ⟨rfl,_⟩ | ⟨j,d,rfl,hd,_⟩
  ·refine AWp.seqK fun K1 hK1=>?_
   (refine AWp.seqD [0,1,2,3,4,6,7,33] [] 21 mixed (by decide +kernel) (by decide +kernel) fun K hK=>?_;simp -implicitDefEqProofs only [EV,Nat.reduceAdd,Nat.reduceEqDiff,reduceCtorEq,Int.reduceNeg,TF25,TF30,];refine⟨_,.inl ⟨_,rfl,hi,rfl⟩,?_⟩;(try simp -implicitDefEqProofs only [EV,Nat.reduceEqDiff,Int.reduceLT,reduceCtorEq,Int.reduceNeg,]);refine hK _ _ ?_;clear hK K)
   refine AWp.takeIfK rfl ?_
   (refine AWp.seqR [0,1,2,3,4,6,7,33] [] (by decide +kernel) fun K hK=>?_;simp -implicitDefEqProofs only [EV,Nat.reduceEqDiff,reduceCtorEq,Int.reduceNeg,];refine hK _ _ ?_;clear hK K)
   have:(match p.decls[(-1:Int).toNat]? with
    | some d=>if 0≤(-1:Int)∧d.vars.length=x.args.length then (-1:Int) else -1
    | none=>-1) = -1:=by
    cases p.decls[(-1:Int).toNat]? with
    | none=>rfl
    | some d=>simp
   rw [this]
   exact AWp.ret ⟨_,by rw [Tryz.results95];rfl,rfl⟩
  ·have hge:¬ (j:Int) < 0:=by omega
   simp only [Int.toNat_natCast,hd]
   by_cases h2:d.vars.length=x.args.length
   ·have h2':(d.vars.length:Int)=x.args.length:=by omega
    rw [if_pos ⟨by omega,h2⟩]
    refine AWp.seqK fun K1 hK1=>?_
    (refine AWp.seqD [0,1,2,3,4,6,7,33] [] 21 mixed (by decide +kernel) (by decide +kernel) fun K hK=>?_;simp -implicitDefEqProofs only [EV,Nat.reduceAdd,Nat.reduceEqDiff,reduceCtorEq,TF25,TF30,];refine⟨_,.inl ⟨_,rfl,hi,rfl⟩,?_⟩;(try simp -implicitDefEqProofs only [EV,Nat.reduceEqDiff,reduceCtorEq,TF22,TF30,TF76,TF80,hge]);refine⟨by omega,_,deR_get hd,rfl,?_⟩;(try simp -implicitDefEqProofs only [EV,Nat.reduceEqDiff,reduceCtorEq,TF23,TF25,TF76,h2']);refine hK _ _ ?_;clear hK K)
    refine AWp.skipIfK rfl hK1 ?_
    (refine AWp.seqR [0,1,2,3,4,6,7,33] [] (by decide +kernel) fun K hK=>?_;simp -implicitDefEqProofs only [EV,Nat.reduceEqDiff,reduceCtorEq,];refine hK _ _ ?_;clear hK K)
    exact AWp.ret ⟨_,by rw [Tryz.results95];rfl,rfl⟩
   ·have h2':¬ (d.vars.length:Int)=x.args.length:=by omega
    rw [if_neg (fun h=>h2 h.2)]
    refine AWp.seqK fun K1 hK1=>?_
    (refine AWp.seqD [0,1,2,3,4,6,7,33] [] 21 mixed (by decide +kernel) (by decide +kernel) fun K hK=>?_;simp -implicitDefEqProofs only [EV,Nat.reduceAdd,Nat.reduceEqDiff,reduceCtorEq,TF25,TF30,];refine⟨_,.inl ⟨_,rfl,hi,rfl⟩,?_⟩;(try simp -implicitDefEqProofs only [EV,Nat.reduceEqDiff,reduceCtorEq,TF22,TF30,TF76,TF80,hge]);refine⟨by omega,_,deR_get hd,rfl,?_⟩;(try simp -implicitDefEqProofs only [EV,Nat.reduceEqDiff,reduceCtorEq,TF23,TF25,TF76,h2']);refine hK _ _ ?_;clear hK K)
    refine AWp.takeIfK rfl ?_
    (refine AWp.seqR [0,1,2,3,4,6,7,33] [] (by decide +kernel) fun K hK=>?_;simp -implicitDefEqProofs only [EV,Nat.reduceEqDiff,reduceCtorEq,Int.reduceNeg,];refine hK _ _ ?_;clear hK K)
    exact AWp.ret ⟨_,by rw [Tryz.results95];rfl,rfl⟩
 ·rw [h1] at hi
  rw [if_neg (by rw [h1];decide)]
  refine AWp.seqK fun K1 hK1=>?_
  (refine AWp.seqD [0,1,2,3,4,6,7,33] [] 21 mixed (by decide +kernel) (by decide +kernel) fun K hK=>?_;simp -implicitDefEqProofs only [EV,Nat.reduceAdd,Nat.reduceEqDiff,reduceCtorEq,TF25,TF30,];refine⟨_,.inl ⟨_,rfl,hi,rfl⟩,?_⟩;(try simp -implicitDefEqProofs only [EV,Nat.reduceEqDiff,reduceCtorEq,]);refine hK _ _ ?_;clear hK K)
  refine AWp.takeIfK rfl ?_
  (refine AWp.seqR [0,1,2,3,4,6,7,33] [] (by decide +kernel) fun K hK=>?_;simp -implicitDefEqProofs only [EV,Nat.reduceEqDiff,reduceCtorEq,Int.reduceNeg,];refine hK _ _ ?_;clear hK K)
  exact AWp.ret ⟨_,by rw [Tryz.results95];rfl,rfl⟩
def methB (p:Prog)(x:Ty)(d:Decl)(i:Nat):Bool:=decide (d.kind=3) && decide (d.name=x.name) && decide (methP p x d.sig.name=(i:Int))
def methL (p:Prog)(x:Ty)(j:Nat):List Sig:=((p.decls.take j).zipIdx.filter fun di=>methB p x di.1 di.2).map fun di=>di.1.sig.canon.subst di.1.vars x.args
theorem methL_succ {p:Prog} {x:Ty} {j:Nat} {d:Decl} (hj:j < p.decls.length)(ht:p.decls.take (j+1)=p.decls.take j++[d]):methL p x (j+1)=methL p x j++if methB p x d j=true then [d.sig.canon.subst d.vars x.args] else []:=by
 unfold methL
 have hlen:(p.decls.take j).length=j:=by rw [List.length_take];omega
 rw [ht,List.zipIdx_append,List.filter_append,List.map_append,hlen]
 congr 1
 simp only [List.zipIdx_cons,List.zipIdx_nil,Nat.zero_add,List.filter_cons,List.filter_nil]
 split <;> simp_all
theorem methL_len (p:Prog)(x:Ty)(j:Nat):(methL p x j).length≤j:=by
 unfold methL
 rw [List.length_map]
 refine Nat.le_trans (List.length_filter_le ..) ?_
 rw [List.length_zipIdx,List.length_take];omega
theorem ok_RMethods (p:Prog)(h:p.Sm)(x:Ty)(hx:x.Sm):CallB Tryz.prog 128 [prV p,tyV x] [] (.acc 5) [(5,.rows 7 (siR (methL p x p.decls.length)))]:=by
 have hl:=h.decls.1
 (refine CallB.of_body Tryz.func128 rfl (by decide) (by rw [Tryz.ntmps128];simp) ?_;rw [Tryz.ntmps128])
 (refine AWp.seqR [0,1,2,3,4,5,6,7,12,39] [] (by decide +kernel) fun K hK=>?_;simp -implicitDefEqProofs only [EV,Nat.reduceAdd,Nat.reduceEqDiff,Nat.reduceBEq,Nat.reduceLeDiff,reduceCtorEq,];refine hK _ _ ?_;clear hK K)
 (refine AWp.seqR [0,1,2,3,4,5,6,7,12,39] [] (by decide +kernel) fun K hK=>?_;simp -implicitDefEqProofs only [EV,Nat.reduceEqDiff,reduceCtorEq,];refine hK _ _ ?_;clear hK K)
 refine AWp.promote 5 7 5 rfl ?_
 refine AWp.seqK fun K1 hK1=>?_
 (refine AWp.seqR [0,1,2,3,4,5,6,7,12,39] [] (by decide +kernel) fun K hK=>?_;simp -implicitDefEqProofs only [EV,Nat.reduceEqDiff,Nat.reduceBEq,reduceCtorEq,];refine hK _ _ ?_;clear hK K)
 refine AWp.block (AWp.forIdx p.decls (X:=Unit) (fun j _=>[(2,.box 2 0),(3,.box 3 0),(5,.acc 5),(6,intV j)]) (fun j _=>[(2,.cells ((prC p).map .d)),(3,.cells ((tyC x).map .d)),(5,.rows 7 (siR (methL p x j)))])
  (fun j _=>True) () trivial (by simp [sle,vle,sget]) (by simp [ble,bget,methL,siR,prC,tyC]) ?_ ?_)
 ·intro _ _
  refine AWp.seqK fun K2 hK2=>?_
  (refine AWp.seqR [0,1,2,3,4,5,6,7,12,39] [] (by decide +kernel) fun K hK=>?_;simp -implicitDefEqProofs only [EV,Nat.reduceEqDiff,reduceCtorEq,TF22,TF30,Int.lt_irrefl];refine hK _ _ ?_;clear hK K)
  refine AWp.stopK rfl ?_
  simp only [thenA,blockA,if_true]
  refine hK1 _ _ ?_
  (refine AWp.seqR [0,1,2,3,4,5,6,7,12,39] [] (by decide +kernel) fun K hK=>?_;simp -implicitDefEqProofs only [EV,Nat.reduceEqDiff,reduceCtorEq,];refine hK _ _ ?_;clear hK K)
  exact AWp.ret ⟨_,by rw [Tryz.results128];rfl,.inl rfl,by simp [ble,bget]⟩
 ·intro j _ d hd hmem hdrop htake hlt hI
  have hlen:=methL_len p x j
  have hsucc:=methL_succ (x:=x) (by omega) htake
  have hdm:=h.decls.2 d hmem
  have hme:=ok_Method p hl x d.sig.name
  refine AWp.seqK fun K2 hK2=>?_
  (refine AWp.seqR [0,1,2,3,4,5,6,7,12,39] [] (by decide +kernel) fun K hK=>?_;simp -implicitDefEqProofs only [EV,Nat.reduceEqDiff,reduceCtorEq,TF22,TF30,hlt];refine hK _ _ ?_;clear hK K)
  refine AWp.goOnK rfl hK2 ?_
  clear hK2 K2
  refine AWp.seqK fun K2 hK2=>?_
  refine AWp.block ?_
  (refine AWp.seqR [0,1,2,3,4,5,6,7,12,39] [] (by decide +kernel) fun K hK=>?_;simp -implicitDefEqProofs only [EV,Nat.reduceEqDiff,reduceCtorEq,TF22,TF30,TF80];refine⟨by omega,_,deR_get hd,rfl,?_⟩;(try simp -implicitDefEqProofs only [EV,Nat.reduceAdd,Nat.reduceEqDiff,Nat.reduceBEq,Nat.reduceLeDiff,reduceCtorEq,TF80]);refine hK _ _ ?_;clear hK K)
  have fin:∀ sl bx,methB p x d j=false→sget sl 2=.box 2 0→sget sl 3=.box 3 0→sget sl 5=.acc 5→sget sl 6=intV j→bget bx 2=some (.cells ((prC p).map .d))→bget bx 3=some (.cells ((tyC x).map .d))→bget bx 5=some (.rows 7 (siR (methL p x j)))→K2 sl bx:=fun sl bx hk g1 g2 g3 g4 g5 g6 g7=>by
   refine hK2 _ _ ?_
   refine AWp.weaken (sl':=[(2,.box 2 0),(3,.box 3 0),(5,.acc 5),(6,intV j)]) (bx':=[(2,.cells ((prC p).map .d)),(3,.cells ((tyC x).map .d)),(5,.rows 7 (siR (methL p x j)))]) (by simp [sle,vle,g1,g2,g3,g4]) (by simp [ble,g5,g6,g7]) ?_
   (refine AWp.lastR [0,1,2,3,4,5,6,7,12,39] [] (by decide +kernel) fun K hK=>?_;simp -implicitDefEqProofs only [EV,Nat.reduceEqDiff,reduceCtorEq,];refine⟨by first | (unfold InR;omega) | (simp only [InR,sm] at *;omega),?_⟩;(try simp -implicitDefEqProofs only [EV,forall_const,implies_true,Nat.reduceAdd,Nat.reduceEqDiff,Nat.reduceBEq,Nat.reduceLeDiff,Nat.reduceSub,Nat.reduceMul,Int.reduceEq,Int.reduceLT,Int.reduceLE,Int.reduceSub,Int.reduceAdd,Int.reduceToNat,reduceCtorEq,Int.reduceNeg,TF3,TF4,TF9,TF22,TF23,TF25,TF30,TF75,TF76,TF78,TF80]);refine hK _ _ ?_;clear hK K;try simp only [thenA,])
   rw [hk,if_neg (by decide),List.append_nil] at hsucc
   exact⟨(),trivial,(by simp [sle,vle,sget]),by simp [ble,bget,hsucc,prC,tyC]⟩
  by_cases h1:d.kind=3
  ·by_cases h2:d.name=x.name
   ·by_cases h3:methP p x d.sig.name=(j:Int)
    ·(refine AWp.seqR [0,1,2,3,4,5,6,7,12,39] [] (by decide +kernel) fun K hK=>?_;simp -implicitDefEqProofs only [EV,Nat.reduceAdd,Nat.reduceEqDiff,reduceCtorEq,TF3,TF9,TF25,TF30,TF78,TF80,h1,h2];refine⟨_,.inl ⟨_,rfl,hme,rfl⟩,?_⟩;(try simp -implicitDefEqProofs only [EV,Nat.reduceEqDiff,reduceCtorEq,h3]);refine hK _ _ ?_;clear hK K)
     refine AWp.condT rfl ?_
     have hk:methB p x d j=true:=by simp [methB,h1,h2,h3]
     rw [hk,if_pos rfl] at hsucc
     (refine AWp.lastD [0,1,2,3,4,5,6,7,12,39] [] 10 mixed (by decide +kernel) (by decide +kernel) fun K hK=>?_;simp -implicitDefEqProofs only [EV,Nat.reduceAdd,Nat.reduceEqDiff,Nat.reduceBEq,Nat.reduceLeDiff,reduceCtorEq,TF23,TF25,TF75,TF76,TF78,TF80];refine⟨_,.inl ⟨_,rfl,ok_RCanon d.sig hdm.sig,rfl⟩,?_⟩;(try simp -implicitDefEqProofs only [EV,]);refine⟨_,.inl ⟨_,rfl,ok_RefSubst d.vars x.args hx.arg _ hdm.sig.canon,rfl⟩,?_⟩;(try simp -implicitDefEqProofs only [EV,Nat.reduceAdd,Nat.reduceLeDiff,Nat.reduceMul,]);refine⟨by simp,by unfold lim sm at *;omega,?_⟩;(try simp -implicitDefEqProofs only [EV,forall_const,implies_true,Nat.reduceAdd,Nat.reduceEqDiff,Nat.reduceBEq,Nat.reduceLeDiff,Nat.reduceSub,Nat.reduceMul,Int.reduceEq,Int.reduceLT,Int.reduceLE,Int.reduceSub,Int.reduceAdd,Int.reduceToNat,reduceCtorEq,Int.reduceNeg,TF3,TF4,TF9,TF22,TF23,TF25,TF30,TF75,TF76,TF78,TF80]);refine hK _ _ ?_;clear hK K;try simp only [thenA,blockA])
     refine hK2 _ _ ?_
     clear hK2 K2 fin
     (refine AWp.lastR [0,1,2,3,4,5,6,7,12,39] [] (by decide +kernel) fun K hK=>?_;simp -implicitDefEqProofs only [EV,Nat.reduceEqDiff,reduceCtorEq,];refine⟨by first | (unfold InR;omega) | (simp only [InR,sm] at *;omega),?_⟩;(try simp -implicitDefEqProofs only [EV,forall_const,implies_true,Nat.reduceAdd,Nat.reduceEqDiff,Nat.reduceBEq,Nat.reduceLeDiff,Nat.reduceSub,Nat.reduceMul,Int.reduceEq,Int.reduceLT,Int.reduceLE,Int.reduceSub,Int.reduceAdd,Int.reduceToNat,reduceCtorEq,Int.reduceNeg,TF3,TF4,TF9,TF22,TF23,TF25,TF30,TF75,TF76,TF78,TF80]);refine hK _ _ ?_;clear hK K;try simp only [thenA,])
     exact⟨(),trivial,(by simp [sle,vle,sget]),by simp [ble,bget,hsucc,siR,siC,prC,tyC]⟩
    ·(refine AWp.seqR [0,1,2,3,4,5,6,7,12,39] [] (by decide +kernel) fun K hK=>?_;simp -implicitDefEqProofs only [EV,Nat.reduceAdd,Nat.reduceEqDiff,reduceCtorEq,TF3,TF9,TF25,TF30,TF78,TF80,h1,h2];refine⟨_,.inl ⟨_,rfl,hme,rfl⟩,?_⟩;(try simp -implicitDefEqProofs only [EV,Nat.reduceEqDiff,reduceCtorEq,h3]);refine hK _ _ ?_;clear hK K)
     refine AWp.condF rfl (AWp.skip (fin _ _ (by simp [methB,h3]) rfl rfl rfl rfl rfl rfl rfl))
   ·(refine AWp.seqR [0,1,2,3,4,5,6,7,12,39] [] (by decide +kernel) fun K hK=>?_;simp -implicitDefEqProofs only [EV,Nat.reduceEqDiff,reduceCtorEq,TF3,TF9,TF25,TF80,h1,h2];refine hK _ _ ?_;clear hK K)
    refine AWp.condF rfl (AWp.skip (fin _ _ (by simp [methB,h2]) rfl rfl rfl rfl rfl rfl rfl))
  ·(refine AWp.seqR [0,1,2,3,4,5,6,7,12,39] [] (by decide +kernel) fun K hK=>?_;simp -implicitDefEqProofs only [EV,Nat.reduceEqDiff,reduceCtorEq,TF3,TF80,h1];refine hK _ _ ?_;clear hK K)
   refine AWp.condF rfl (AWp.skip (fin _ _ (by simp [methB,h1]) rfl rfl rfl rfl rfl rfl rfl))
theorem firstK_idx (l:List Lit):∀ (ds:List Decl)(i:Nat),firstK l ds i=(ds.findIdx? fun d=>match keyOfD d with | some k'=>decide (l=k'.lits) | none=>false).map fun j=>D.int .i64 ((i+j:Nat):Int)
 | [],i=>rfl
 | d::ds,i=>by
  rw [firstK,List.findIdx?_cons,firstK_idx l ds (i+1)]
  have hm:∀ o:Option Nat,(o.map fun j=>D.int .i64 ((i+1+j:Nat):Int))=(o.map (·+1)).map fun j=>D.int .i64 ((i+j:Nat):Int):=fun o=>by
   cases o with
   | none=>rfl
   | some j=>simp only [Option.map_some,Option.some.injEq,D.int.injEq,true_and];congr 1;omega
  cases hk:keyOfD d with
  | none=>simp only [if_neg (show ¬ (false=true) by decide)];exact hm _
  | some k =>
   simp only
   by_cases h:l=k.lits
   ·simp [h]
   ·simp only [h,if_false,decide_false];exact hm _
theorem keyM_eq (nm m:Str):(fun d:Decl=>match keyOfD d with | some k'=>decide ((tkey nm (46::m)).lits=k'.lits) | none=>false)=keyM nm m:=by
 funext d
 unfold keyOfD keyM
 by_cases h1:d.kind=1∨d.kind=2
 ·rw [if_pos h1]
  have h3:¬ d.kind=3:=by omega
  simp [h3,tkey,D.lits,D.lit]
 ·rw [if_neg h1]
  by_cases h4:d.kind=3
  ·rw [if_pos h4]
   have e:((tkey nm (46::m)).lits=(tkey d.name (46::d.sig.name)).lits)↔(d.name=nm∧d.sig.name=m):=by
    simp only [tkey,D.lits,D.lit,List.map_cons,List.map_nil,List.cons.injEq,Lit.string.injEq,and_true,true_and]
    exact⟨fun h=>⟨h.1.symm,h.2.symm⟩,fun h=>⟨h.1.symm,h.2.symm⟩⟩
   simp only [h4,decide_true,Bool.true_and,e,Bool.decide_and]
  ·rw [if_neg h4];simp [h4]
theorem tab_meth (p:Prog)(nm m:Str):(methI p nm m = -1∧kfind (tkey nm (46::m)).lits (tabM p) 0=none)∨∃ (j q:Nat),methI p nm m=j∧kfind (tkey nm (46::m)).lits (tabM p) 0=some (q,.int .i64 j):=by
 have hkv:kval (tkey nm (46::m)).lits (tabM p)=firstK (tkey nm (46::m)).lits p.decls 0:=by unfold tabM;rw [kval_tabF];rfl
 rw [firstK_idx,keyM_eq] at hkv
 unfold kval at hkv
 unfold methI idxF
 cases hi:p.decls.findIdx? (keyM nm m) with
 | none =>
  rw [hi] at hkv
  exact .inl ⟨rfl,by simpa using hkv⟩
 | some j =>
  rw [hi] at hkv
  refine .inr ⟨j,?_⟩
  cases hf:kfind (tkey nm (46::m)).lits (tabM p) 0 with
  | none=>rw [hf] at hkv;simp at hkv
  | some qd =>
   obtain⟨q,d⟩:=qd
   rw [hf] at hkv
   simp only [Option.map_some,Option.some.injEq,Nat.zero_add] at hkv
   exact⟨q,rfl,by rw [hkv]⟩
theorem methB_eq {p:Prog} {x:Ty} {d:Decl} {j:Nat} (hi:instB p x 1=true)(hd:p.decls[j]? = some d):methB p x d j=(decide (methI p x.name d.sig.name=(j:Int)) && decide (d.vars.length=x.args.length)):=by
 unfold methB methP
 rw [if_pos hi]
 unfold methI
 rcases idxF_cases (keyM x.name d.sig.name) p.decls with ⟨h1,_⟩ | ⟨k,e,h1,h2,h3⟩
 ·rw [h1]
  have h0:¬ (-1:Int)=(j:Int):=by omega
  have:(match p.decls[(-1:Int).toNat]? with
    | some d=>if 0≤(-1:Int)∧d.vars.length=x.args.length then (-1:Int) else -1
    | none=>-1) = -1:=by
    cases p.decls[(-1:Int).toNat]? with
    | none=>rfl
    | some d=>simp
  rw [this]
  simp [h0]
 ·rw [h1]
  simp only [Int.toNat_natCast,h2]
  by_cases hk:k=j
  ·subst hk
   rw [h2] at hd
   simp only [Option.some.injEq] at hd;subst hd
   simp only [keyM,Bool.and_eq_true,decide_eq_true_eq] at h3
   by_cases hv:e.vars.length=x.args.length
   ·simp [h3,hv]
   ·have h0:¬ (-1:Int)=(k:Int):=by omega
    simp [hv,h0]
  ·have h0:¬ (k:Int)=(j:Int):=by omega
   by_cases hv:e.vars.length=x.args.length
   ·simp [hv,h0]
   ·have h1:¬ (-1:Int)=(j:Int):=by omega
    simp [hv,h0,h1]
theorem methL_nil {p:Prog} {x:Ty} (hi:¬ instB p x 1=true)(j:Nat):methL p x j=[]:=by
 unfold methL
 rw [List.map_eq_nil_iff,List.filter_eq_nil_iff]
 rintro⟨d,i⟩ _
 simp only [methB,methP,if_neg hi]
 have h0:¬ (-1:Int)=(i:Int):=by omega
 simp [h0]
theorem ok_TMethods (p:Prog)(h:p.Sm)(x:Ty)(hx:x.Sm):CallB Tryz.prog 122 [.dptr (tabC p) 0,tyV x] [] (.acc 7) [(7,.rows 7 (siR (methL p x p.decls.length)))]:=by
 have hl:=h.decls.1
 have hin:=ok_instance p h x 1 (by decide)
 generalize (declT p x.name).getD default=dd at *
 (refine CallB.of_body Tryz.func122 rfl (by decide) (by rw [Tryz.ntmps122];simp) ?_;rw [Tryz.ntmps122])
 (refine AWp.seqR [0,1,3,4,6,7,8,9,10,11,19,24,25,26,27,60] [] (by decide +kernel) fun K hK=>?_;simp -implicitDefEqProofs only [EV,Nat.reduceAdd,Nat.reduceEqDiff,Nat.reduceLeDiff,reduceCtorEq,];refine hK _ _ ?_;clear hK K)
 rcases Bool.eq_false_or_eq_true (instB p x 1) with hi | hi
 ·rw [hi] at hin
  refine AWp.seqK fun K1 hK1=>?_
  (refine AWp.seqR [0,1,3,4,6,7,8,9,10,11,19,24,25,26,27,60] [] (by decide +kernel) fun K hK=>?_;simp -implicitDefEqProofs only [EV,Nat.reduceAdd,Nat.reduceEqDiff,reduceCtorEq,TF25,];refine⟨_,.inl ⟨_,rfl,hin,rfl⟩,?_⟩;(try simp -implicitDefEqProofs only [EV,Nat.reduceAdd,Nat.reduceEqDiff,Nat.reduceBEq,Nat.reduceLeDiff,reduceCtorEq,TF80,]);refine hK _ _ ?_;clear hK K)
  (refine AWp.seqR [0,1,3,4,6,7,8,9,10,11,19,24,25,26,27,60] [] (by decide +kernel) fun K hK=>?_;simp -implicitDefEqProofs only [EV,Nat.reduceEqDiff,reduceCtorEq,];refine hK _ _ ?_;clear hK K)
  refine AWp.skipIfK rfl hK1 ?_
  clear hK1 K1
  (refine AWp.seqR [0,1,3,4,6,7,8,9,10,11,19,24,25,26,27,60] [] (by decide +kernel) fun K hK=>?_;simp -implicitDefEqProofs only [EV,Nat.reduceEqDiff,reduceCtorEq,];refine hK _ _ ?_;clear hK K)
  refine AWp.promote 7 7 7 rfl ?_
  refine AWp.seqK fun K1 hK1=>?_
  (refine AWp.seqR [0,1,3,4,6,7,8,9,10,11,19,24,25,26,27,60] [] (by decide +kernel) fun K hK=>?_;simp -implicitDefEqProofs only [EV,Nat.reduceEqDiff,Nat.reduceBEq,reduceCtorEq,TF22,TF30,TF116,tabC];refine hK _ _ ?_;clear hK K)
  refine AWp.block (AWp.forIdx p.decls (X:=Unit) (fun j _=>[(0,.dptr (tabC p) 0),(3,.box 3 0),(7,.acc 7),(24,.d (.slice (deR p.decls))),(25,intV p.decls.length),(26,intV j)]) (fun j _=>[(3,.cells ((tyC x).map .d)),(7,.rows 7 (siR (methL p x j)))])
   (fun j _=>True) () trivial (by simp [sle,vle,sget,tabC,prC]) (by simp [ble,bget,methL,siR,tyC]) ?_ ?_)
  ·intro _ _
   (refine AWp.seqR [0,1,3,4,6,7,8,9,10,11,19,24,25,26,27,60] [] (by decide +kernel) fun K hK=>?_;simp -implicitDefEqProofs only [EV,Nat.reduceEqDiff,reduceCtorEq,Int.lt_irrefl];refine hK _ _ ?_;clear hK K)
   refine AWp.stop rfl ?_
   simp only [thenA,blockA,if_true]
   refine hK1 _ _ ?_
   (refine AWp.seqR [0,1,3,4,6,7,8,9,10,11,19,24,25,26,27,60] [] (by decide +kernel) fun K hK=>?_;simp -implicitDefEqProofs only [EV,Nat.reduceEqDiff,reduceCtorEq,];refine hK _ _ ?_;clear hK K)
   exact AWp.ret ⟨_,by rw [Tryz.results122];rfl,.inl rfl,by simp [ble,bget]⟩
  ·intro j _ d hd hmem hdrop htake hlt hI
   have hlen:=methL_len p x j
   have hsucc:=methL_succ (x:=x) (by omega) htake
   have hdm:=h.decls.2 d hmem
   have hb:=methB_eq hi hd
   (refine AWp.seqR [0,1,3,4,6,7,8,9,10,11,19,24,25,26,27,60] [] (by decide +kernel) fun K hK=>?_;simp -implicitDefEqProofs only [EV,Nat.reduceEqDiff,reduceCtorEq,hlt];refine hK _ _ ?_;clear hK K)
   refine AWp.goOn rfl ?_
   refine AWp.seqK fun K2 hK2=>?_
   refine AWp.block ?_
   (refine AWp.seqR [0,1,3,4,6,7,8,9,10,11,19,24,25,26,27,60] [] (by decide +kernel) fun K hK=>?_;simp -implicitDefEqProofs only [EV,Nat.reduceEqDiff,reduceCtorEq,TF22,TF80,];refine⟨by omega,_,deR_get hd,rfl,?_⟩;(try simp -implicitDefEqProofs only [EV,Nat.reduceAdd,Nat.reduceEqDiff,Nat.reduceBEq,Nat.reduceLeDiff,reduceCtorEq,TF80,]);refine hK _ _ ?_;clear hK K)
   have hnm:=hdm.sig.name
   have hk:=key_two two79 x.name (46::d.sig.name) (Nat.le_trans hx.name (by decide)) (by simp only [List.length_cons];unfold sm lim at *;omega)
   have htm:=tab_meth p x.name d.sig.name
   unfold tkey at hk htm
   (refine AWp.seqD [0,1,3,4,6,7,8,9,10,11,19,24,25,26,27,60] [] 17 mixed (by decide +kernel) (by decide +kernel) fun K hK=>?_;simp -implicitDefEqProofs only [EV,Nat.reduceAdd,Nat.reduceEqDiff,Nat.reduceLeDiff,reduceCtorEq,TF9,TF25,TF78,TF80,TF114,TF116,TF118,tabC];refine⟨by unfold sm lim at *;omega,tabM_keys p h,hk,?_⟩;(try simp -implicitDefEqProofs only [EV,forall_const,implies_true,Nat.reduceAdd,Nat.reduceEqDiff,Nat.reduceBEq,Nat.reduceLeDiff,Nat.reduceSub,Nat.reduceMul,Int.reduceEq,Int.reduceLT,Int.reduceLE,Int.reduceSub,Int.reduceAdd,Int.reduceToNat,reduceCtorEq,Int.reduceNeg,TF3,TF4,TF9,TF22,TF23,TF25,TF30,TF75,TF76,TF78,TF80,TF114,TF116,TF118,tabC,TF56]);refine hK _ _ ?_;clear hK K)
   have fin:∀ sl bx,methB p x d j=false→sget sl 0=.dptr (tabC p) 0→sget sl 3=.box 3 0→sget sl 7=.acc 7→sget sl 24=.d (.slice (deR p.decls))→sget sl 25=intV p.decls.length→sget sl 26=intV j→bget bx 3=some (.cells ((tyC x).map .d))→bget bx 7=some (.rows 7 (siR (methL p x j)))→K2 sl bx:=fun sl bx hk g1 g2 g3 g4 g5 g6 g7 g8=>by
    refine hK2 _ _ ?_
    refine AWp.weaken (sl':=[(0,.dptr (tabC p) 0),(3,.box 3 0),(7,.acc 7),(24,.d (.slice (deR p.decls))),(25,intV p.decls.length),(26,intV j)]) (bx':=[(3,.cells ((tyC x).map .d)),(7,.rows 7 (siR (methL p x j)))]) (by simp [sle,vle,g1,g2,g3,g4,g5,g6]) (by simp [ble,g7,g8]) ?_
    (refine AWp.lastR [0,1,3,4,6,7,8,9,10,11,19,24,25,26,27,60] [] (by decide +kernel) fun K hK=>?_;simp -implicitDefEqProofs only [EV,Nat.reduceEqDiff,reduceCtorEq,];refine⟨by first | (unfold InR;omega) | (simp only [InR,sm] at *;omega),?_⟩;(try simp -implicitDefEqProofs only [EV,forall_const,implies_true,Nat.reduceAdd,Nat.reduceEqDiff,Nat.reduceBEq,Nat.reduceLeDiff,Nat.reduceSub,Nat.reduceMul,Int.reduceEq,Int.reduceLT,Int.reduceLE,Int.reduceSub,Int.reduceAdd,Int.reduceToNat,reduceCtorEq,Int.reduceNeg,TF3,TF4,TF9,TF22,TF23,TF25,TF30,TF75,TF76,TF78,TF80,TF114,TF116,TF118]);refine hK _ _ ?_;clear hK K;try simp only [thenA,])
    rw [hk,if_neg (by decide),List.append_nil] at hsucc
    exact⟨(),trivial,(by simp [sle,vle,sget,tabC,prC]),by simp [ble,bget,hsucc,tyC]⟩
   rcases htm with ⟨m1,m2⟩ | ⟨k,q,m1,m2⟩
   ·have h0:¬ (-1:Int)=(j:Int):=by omega
    simp only [lookV,m2,Option.isSome_none]
    (refine AWp.seqR [0,1,3,4,6,7,8,9,10,11,19,24,25,26,27,60] [] (by decide +kernel) fun K hK=>?_;simp -implicitDefEqProofs only [EV,Nat.reduceEqDiff,reduceCtorEq,];refine hK _ _ ?_;clear hK K)
    refine AWp.condF rfl (AWp.skip (fin _ _ (by rw [hb,m1];simp [h0]) rfl rfl rfl rfl rfl rfl rfl rfl))
   ·simp only [lookV,m2,ofD,Option.isSome_some]
    by_cases hkj:(k:Int)=(j:Int)
    ·by_cases hv:d.vars.length=x.args.length
     ·have hv':(d.vars.length:Int)=x.args.length:=by omega
      (refine AWp.seqR [0,1,3,4,6,7,8,9,10,11,19,24,25,26,27,60] [] (by decide +kernel) fun K hK=>?_;simp -implicitDefEqProofs only [EV,Nat.reduceEqDiff,reduceCtorEq,TF23,TF25,TF76,TF80,hkj,hv'];refine hK _ _ ?_;clear hK K)
      refine AWp.condT rfl ?_
      have hk:methB p x d j=true:=by rw [hb,m1];simp [hkj,hv]
      rw [hk,if_pos rfl] at hsucc
      (refine AWp.lastD [0,1,3,4,6,7,8,9,10,11,19,24,25,26,27,60] [] 10 mixed (by decide +kernel) (by decide +kernel) fun K hK=>?_;simp -implicitDefEqProofs only [EV,Nat.reduceAdd,Nat.reduceEqDiff,Nat.reduceBEq,Nat.reduceLeDiff,reduceCtorEq,TF23,TF25,TF75,TF76,TF78,TF80,];refine⟨_,.inl ⟨_,rfl,ok_BCanon d.sig hdm.sig,rfl⟩,?_⟩;(try simp -implicitDefEqProofs only [EV,]);refine⟨_,.inl ⟨_,rfl,ok_BSubst d.vars x.args hx.arg _ hdm.sig.canon,rfl⟩,?_⟩;(try simp -implicitDefEqProofs only [EV,Nat.reduceAdd,Nat.reduceLeDiff,Nat.reduceMul,]);refine⟨by simp,by unfold lim sm at *;omega,?_⟩;(try simp -implicitDefEqProofs only [EV,forall_const,implies_true,Nat.reduceAdd,Nat.reduceEqDiff,Nat.reduceBEq,Nat.reduceLeDiff,Nat.reduceSub,Nat.reduceMul,Int.reduceEq,Int.reduceLT,Int.reduceLE,Int.reduceSub,Int.reduceAdd,Int.reduceToNat,reduceCtorEq,Int.reduceNeg,TF3,TF4,TF9,TF22,TF23,TF25,TF30,TF75,TF76,TF78,TF80,TF114,TF116,TF118]);refine hK _ _ ?_;clear hK K;try simp only [thenA,blockA])
      refine hK2 _ _ ?_
      clear hK2 K2 fin
      (refine AWp.lastR [0,1,3,4,6,7,8,9,10,11,19,24,25,26,27,60] [] (by decide +kernel) fun K hK=>?_;simp -implicitDefEqProofs only [EV,Nat.reduceEqDiff,reduceCtorEq,];refine⟨by first | (unfold InR;omega) | (simp only [InR,sm] at *;omega),?_⟩;(try simp -implicitDefEqProofs only [EV,forall_const,implies_true,Nat.reduceAdd,Nat.reduceEqDiff,Nat.reduceBEq,Nat.reduceLeDiff,Nat.reduceSub,Nat.reduceMul,Int.reduceEq,Int.reduceLT,Int.reduceLE,Int.reduceSub,Int.reduceAdd,Int.reduceToNat,reduceCtorEq,Int.reduceNeg,TF3,TF4,TF9,TF22,TF23,TF25,TF30,TF75,TF76,TF78,TF80,TF114,TF116,TF118]);refine hK _ _ ?_;clear hK K;try simp only [thenA,])
      exact⟨(),trivial,(by simp [sle,vle,sget,tabC,prC]),by simp [ble,bget,hsucc,siR,siC,tyC]⟩
     ·have hv':¬ (d.vars.length:Int)=x.args.length:=by omega
      (refine AWp.seqR [0,1,3,4,6,7,8,9,10,11,19,24,25,26,27,60] [] (by decide +kernel) fun K hK=>?_;simp -implicitDefEqProofs only [EV,Nat.reduceEqDiff,reduceCtorEq,TF23,TF25,TF76,TF80,hkj,hv'];refine hK _ _ ?_;clear hK K)
      refine AWp.condF rfl (AWp.skip (fin _ _ (by rw [hb,m1];simp [hv]) rfl rfl rfl rfl rfl rfl rfl rfl))
    ·(refine AWp.seqR [0,1,3,4,6,7,8,9,10,11,19,24,25,26,27,60] [] (by decide +kernel) fun K hK=>?_;simp -implicitDefEqProofs only [EV,Nat.reduceEqDiff,reduceCtorEq,hkj];refine hK _ _ ?_;clear hK K)
     refine AWp.condF rfl (AWp.skip (fin _ _ (by rw [hb,m1];simp [hkj]) rfl rfl rfl rfl rfl rfl rfl rfl))
 ·rw [hi] at hin
  refine AWp.seqK fun K1 hK1=>?_
  (refine AWp.seqR [0,1,3,4,6,7,8,9,10,11,19,24,25,26,27,60] [] (by decide +kernel) fun K hK=>?_;simp -implicitDefEqProofs only [EV,Nat.reduceAdd,Nat.reduceEqDiff,reduceCtorEq,TF25,];refine⟨_,.inl ⟨_,rfl,hin,rfl⟩,?_⟩;(try simp -implicitDefEqProofs only [EV,Nat.reduceAdd,Nat.reduceEqDiff,Nat.reduceBEq,Nat.reduceLeDiff,reduceCtorEq,TF80,]);refine hK _ _ ?_;clear hK K)
  (refine AWp.seqR [0,1,3,4,6,7,8,9,10,11,19,24,25,26,27,60] [] (by decide +kernel) fun K hK=>?_;simp -implicitDefEqProofs only [EV,Nat.reduceEqDiff,reduceCtorEq,];refine hK _ _ ?_;clear hK K)
  refine AWp.takeIfK rfl ?_
  (refine AWp.seqR [0,1,3,4,6,7,8,9,10,11,19,24,25,26,27,60] [] (by decide +kernel) fun K hK=>?_;simp -implicitDefEqProofs only [EV,Nat.reduceEqDiff,reduceCtorEq,];refine hK _ _ ?_;clear hK K)
  rw [methL_nil (by rw [hi];decide)]
  refine AWp.promote 7 7 4 rfl ?_
  exact AWp.ret ⟨_,by rw [Tryz.results122];rfl,.inl rfl,by simp [ble,bget,siR]⟩
end Go.Abs
