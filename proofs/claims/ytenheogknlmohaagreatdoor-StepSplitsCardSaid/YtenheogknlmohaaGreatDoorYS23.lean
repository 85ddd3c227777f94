/- method.pick, Missing, Covers; castingsref12.Missing -/
import Derived.Test.YtenheogknlmohaaGreatDoorYS22
import Derived.Test.YtenheogknlmohaaGreatDoorYSB
namespace Go.Abs
set_option linter.unusedSimpArgs false
set_option linter.unusedVariables false
open Go Go.Proofs
set_option maxRecDepth 100000
set_option maxHeartbeats 1000000
def nameI (l:List Sig)(nm:Str):Int:=idxF (fun s=>decide (s.name=nm)) l
theorem ok_pick1 (nm:Str)(s:Sig):CallOK Tryz.prog 199 [siV s,.dptr [.str nm] 0] (boolV (decide (s.name=nm))):=by
 (refine CallOK.of_body Tryz.func199 rfl (by decide) (by rw [Tryz.ntmps199];simp) ?_;rw [Tryz.ntmps199])
 (refine AWp.seqR [0,1,2,3] [] (by decide +kernel) fun K hK=>?_;simp -implicitDefEqProofs only [EV,Nat.reduceAdd,Nat.reduceEqDiff,Nat.reduceLeDiff,reduceCtorEq,];refine hK _ _ ?_;clear hK K)
 (refine AWp.seqR [0,1,2,3] [] (by decide +kernel) fun K hK=>?_;simp -implicitDefEqProofs only [EV,Nat.reduceEqDiff,reduceCtorEq,TF9,TF78];refine hK _ _ ?_;clear hK K)
 exact AWp.ret ⟨_,by rw [Tryz.results199];rfl,rfl⟩
def sig0:Sig:=⟨[],[],[],.mk [] [] 0,0⟩
def pickR (l:List Sig)(nm:Str):SV:=if nameI l nm < 0 then .tuple [siV sig0,boolV false] else .tuple [siV ((l[(nameI l nm).toNat]?).getD sig0),boolV true]
theorem ok_pick (l:List Sig)(hl:l.length≤sm)(nm:Str):CallOK Tryz.prog 172 [.d (.slice (siR l)),strV nm] (pickR l nm):=by
 have hi:=ok_IndexFuncS 199 [.dptr [.str nm] 0] (fun _=>rfl) (fun s=>decide (s.name=nm)) l hl (fun s _=>ok_pick1 nm s)
 have hc:=idxF_cases (fun s:Sig=>decide (s.name=nm)) l
 unfold pickR nameI
 generalize idxF (fun s:Sig=>decide (s.name=nm)) l=k at *
 (refine CallOK.of_body Tryz.func172 rfl (by decide) (by rw [Tryz.ntmps172];simp) ?_;rw [Tryz.ntmps172])
 (refine AWp.seqR [0,1,3,4,5,6,11] [] (by decide +kernel) fun K hK=>?_;simp -implicitDefEqProofs only [EV,Nat.reduceAdd,Nat.reduceEqDiff,Nat.reduceBEq,Nat.reduceLeDiff,reduceCtorEq,TF78];refine hK _ _ ?_;clear hK K)
 refine AWp.freeze 3 rfl rfl ?_
 refine AWp.weaken (sl':=[(0,.d (.slice (siR l))),(3,.dptr [.str nm] 0),(4,.box 4 0),(5,boolV false)]) (bx':=[(4,.cells si0)])
  (by simp [subSl,SV.sub,sle,vle,sget]) (by simp [subBx,BoxC.sub,SV.subL,SV.sub,ble,bget,berase]) ?_
 (refine AWp.seqR [0,1,3,4,5,6,11] [] (by decide +kernel) fun K hK=>?_;simp -implicitDefEqProofs only [EV,Nat.reduceAdd,Nat.reduceEqDiff,reduceCtorEq,];refine⟨_,.inl ⟨_,rfl,hi,rfl⟩,?_⟩;(try simp -implicitDefEqProofs only [EV,]);refine hK _ _ ?_;clear hK K)
 rcases hc with ⟨rfl,_⟩ | ⟨j,s,rfl,hs,_⟩
 ·refine AWp.seqK fun K1 hK1=>?_
  (refine AWp.seqR [0,1,3,4,5,6,11] [] (by decide +kernel) fun K hK=>?_;simp -implicitDefEqProofs only [EV,Nat.reduceEqDiff,Int.reduceLT,reduceCtorEq,Int.reduceNeg,];refine hK _ _ ?_;clear hK K)
  refine AWp.takeIfK rfl ?_
  (refine AWp.seqR [0,1,3,4,5,6,11] [] (by decide +kernel) fun K hK=>?_;simp -implicitDefEqProofs only [EV,Nat.reduceAdd,Nat.reduceEqDiff,reduceCtorEq,Int.reduceNeg,TF78];refine hK _ _ ?_;clear hK K)
  exact AWp.ret ⟨_,by rw [Tryz.results172];rfl,rfl⟩
 ·have hge:¬ (j:Int) < 0:=by omega
  rw [if_neg hge]
  simp only [Int.toNat_natCast,hs,Option.getD_some]
  refine AWp.seqK fun K1 hK1=>?_
  (refine AWp.seqR [0,1,3,4,5,6,11] [] (by decide +kernel) fun K hK=>?_;simp -implicitDefEqProofs only [EV,Nat.reduceEqDiff,reduceCtorEq,hge];refine hK _ _ ?_;clear hK K)
  refine AWp.skipIfK rfl hK1 ?_
  (refine AWp.seqR [0,1,3,4,5,6,11] [] (by decide +kernel) fun K hK=>?_;simp -implicitDefEqProofs only [EV,Nat.reduceEqDiff,reduceCtorEq,TF75,TF78];refine⟨by omega,_,siR_get hs,rfl,?_⟩;(try simp -implicitDefEqProofs only [EV,Nat.reduceAdd,Nat.reduceEqDiff,reduceCtorEq,TF78]);refine hK _ _ ?_;clear hK K)
  exact AWp.ret ⟨_,by rw [Tryz.results172];rfl,rfl⟩
def missB (l:List Sig)(w:Sig):Bool:=if nameI l w.name < 0 then true else !sameSi ((l[(nameI l w.name).toNat]?).getD sig0).canon w.canon
def missL (l m:List Sig):List Str:=(m.filter (missB l)).map (·.name)
theorem missL_succ {l m:List Sig} {j:Nat} {d:Sig} (ht:m.take (j+1)=m.take j++[d]):missL l (m.take (j+1))=missL l (m.take j)++if missB l d=true then [d.name] else []:=by
 unfold missL
 rw [ht,List.filter_append,List.map_append]
 congr 1
 simp only [List.filter_cons,List.filter_nil]
 split <;> rfl
theorem missL_len (l m:List Sig)(j:Nat):(missL l (m.take j)).length≤j:=by
 unfold missL
 rw [List.length_map]
 exact Nat.le_trans (List.length_filter_le ..) (by rw [List.length_take];omega)
theorem strR_app (l m:List Str):strR (l++m)=strR l++strR m:=by simp [strR]
theorem ok_Missing (l m:List Sig)(hl:l.length≤sm)(hm:m.length≤sm)(hs:∀ s,s∈l→s.Sm)(ht:∀ s,s∈m→s.Sm):CallOK Tryz.prog 121 [.d (.slice (siR l)),.d (.slice (siR m))] (strsV (missL l m)):=by
 (refine CallOK.of_body Tryz.func121 rfl (by decide) (by rw [Tryz.ntmps121];simp) ?_;rw [Tryz.ntmps121])
 (refine AWp.seqR [0,1,4,5,7,8,9,10,11,12,13,30] [] (by decide +kernel) fun K hK=>?_;simp -implicitDefEqProofs only [EV,Nat.reduceAdd,Nat.reduceEqDiff,reduceCtorEq,];refine hK _ _ ?_;clear hK K)
 (refine AWp.seqR [0,1,4,5,7,8,9,10,11,12,13,30] [] (by decide +kernel) fun K hK=>?_;simp -implicitDefEqProofs only [EV,Nat.reduceEqDiff,reduceCtorEq,];refine hK _ _ ?_;clear hK K)
 refine AWp.promote 5 1 5 rfl ?_
 refine AWp.seqK fun K1 hK1=>?_
 (refine AWp.seqR [0,1,4,5,7,8,9,10,11,12,13,30] [] (by decide +kernel) fun K hK=>?_;simp -implicitDefEqProofs only [EV,Nat.reduceEqDiff,reduceCtorEq,TF75,];refine hK _ _ ?_;clear hK K)
 refine AWp.block (AWp.forIdx m (X:=Unit) (fun j _=>[(0,.d (.slice (siR l))),(5,.acc 5),(10,.d (.slice (siR m))),(11,intV m.length),(12,intV j)]) (fun j _=>[(5,.rows 1 (strR (missL l (m.take j))))])
  (fun j _=>True) () trivial (by simp [sle,vle,sget]) (by simp [ble,bget,missL,strR]) ?_ ?_)
 ·intro _ _
  rw [List.take_length]
  (refine AWp.seqR [0,1,4,5,7,8,9,10,11,12,13,30] [] (by decide +kernel) fun K hK=>?_;simp -implicitDefEqProofs only [EV,Nat.reduceEqDiff,reduceCtorEq,Int.lt_irrefl];refine hK _ _ ?_;clear hK K)
  refine AWp.stop rfl ?_
  simp only [thenA,blockA,if_true]
  refine hK1 _ _ ?_
  (refine AWp.seqR [0,1,4,5,7,8,9,10,11,12,13,30] [] (by decide +kernel) fun K hK=>?_;simp -implicitDefEqProofs only [EV,Nat.reduceEqDiff,reduceCtorEq,];refine hK _ _ ?_;clear hK K)
  exact AWp.ret ⟨_,by rw [Tryz.results121];rfl,rfl⟩
 ·intro j _ d hd hmem hdrop htake hlt _
  have hlen:=missL_len l m j
  have hsucc:=missL_succ (l:=l) htake
  have hpk:=ok_pick l hl d.name
  have hdm:=ht d hmem
  have hal:∀ e,e∈l→CallOK Tryz.prog 173 [siV e,siV d] (boolV (sameSi e.canon d.canon)):=fun e hem=>ok_BAlike e d (hs e hem) hdm
  have hc:=idxF_cases (fun s:Sig=>decide (s.name=d.name)) l
  unfold pickR at hpk
  unfold missB at hsucc
  unfold nameI at *
  generalize idxF (fun s:Sig=>decide (s.name=d.name)) l=k at *
  (refine AWp.seqR [0,1,4,5,7,8,9,10,11,12,13,30] [] (by decide +kernel) fun K hK=>?_;simp -implicitDefEqProofs only [EV,Nat.reduceEqDiff,reduceCtorEq,hlt];refine hK _ _ ?_;clear hK K)
  refine AWp.goOn rfl ?_
  refine AWp.seqK fun K2 hK2=>?_
  refine AWp.block ?_
  (refine AWp.seqR [0,1,4,5,7,8,9,10,11,12,13,30] [] (by decide +kernel) fun K hK=>?_;simp -implicitDefEqProofs only [EV,Nat.reduceEqDiff,reduceCtorEq,TF75,TF78];refine⟨by omega,_,siR_get hd,rfl,?_⟩;(try simp -implicitDefEqProofs only [EV,Nat.reduceAdd,Nat.reduceEqDiff,Nat.reduceBEq,Nat.reduceLeDiff,reduceCtorEq,TF78]);refine hK _ _ ?_;clear hK K)
  rcases hc with ⟨rfl,_⟩ | ⟨q,e,rfl,he,_⟩
  ·rw [if_pos (show (-1:Int) < 0 by decide)] at hpk hsucc
   rw [if_pos rfl] at hsucc
   (refine AWp.seqR [0,1,4,5,7,8,9,10,11,12,13,30] [] (by decide +kernel) fun K hK=>?_;simp -implicitDefEqProofs only [EV,Nat.reduceAdd,Nat.reduceEqDiff,reduceCtorEq,TF9,TF78];refine⟨_,.inl ⟨_,rfl,hpk,rfl⟩,?_⟩;(try simp -implicitDefEqProofs only [EV,Nat.reduceAdd,Nat.reduceEqDiff,Nat.reduceBEq,Nat.reduceLeDiff,reduceCtorEq,TF78]);refine hK _ _ ?_;clear hK K)
   (refine AWp.seqR [0,1,4,5,7,8,9,10,11,12,13,30] [] (by decide +kernel) fun K hK=>?_;simp -implicitDefEqProofs only [EV,Nat.reduceEqDiff,reduceCtorEq,];refine hK _ _ ?_;clear hK K)
   refine AWp.condT rfl ?_
   (refine AWp.lastR [0,1,4,5,7,8,9,10,11,12,13,30] [] (by decide +kernel) fun K hK=>?_;simp -implicitDefEqProofs only [EV,Nat.reduceEqDiff,Nat.reduceBEq,Nat.reduceLeDiff,Nat.reduceMul,reduceCtorEq,TF9,TF76,TF78];refine⟨by simp,by unfold lim sm at *;omega,?_⟩;(try simp -implicitDefEqProofs only [EV,forall_const,implies_true,Nat.reduceAdd,Nat.reduceEqDiff,Nat.reduceBEq,Nat.reduceLeDiff,Nat.reduceSub,Nat.reduceMul,Int.reduceEq,Int.reduceLT,Int.reduceLE,Int.reduceSub,Int.reduceAdd,Int.reduceToNat,reduceCtorEq,Int.reduceNeg,TF3,TF4,TF9,TF75,TF76,TF78]);refine hK _ _ ?_;clear hK K;try simp only [thenA,blockA])
   refine hK2 _ _ ?_
   clear hK2 K2
   (refine AWp.lastR [0,1,4,5,7,8,9,10,11,12,13,30] [] (by decide +kernel) fun K hK=>?_;simp -implicitDefEqProofs only [EV,Nat.reduceEqDiff,reduceCtorEq,];refine⟨by first | (unfold InR;omega) | (simp only [InR,sm] at *;omega),?_⟩;(try simp -implicitDefEqProofs only [EV,forall_const,implies_true,Nat.reduceAdd,Nat.reduceEqDiff,Nat.reduceBEq,Nat.reduceLeDiff,Nat.reduceSub,Nat.reduceMul,Int.reduceEq,Int.reduceLT,Int.reduceLE,Int.reduceSub,Int.reduceAdd,Int.reduceToNat,reduceCtorEq,Int.reduceNeg,TF3,TF4,TF9,TF75,TF76,TF78]);refine hK _ _ ?_;clear hK K;try simp only [thenA,])
   exact⟨(),trivial,(by simp [sle,vle,sget]),by simp [ble,bget,hsucc,strR]⟩
  ·have hge:¬ (q:Int) < 0:=by omega
   rw [if_neg hge] at hpk hsucc
   simp only [Int.toNat_natCast,he,Option.getD_some] at hpk hsucc
   have ha:=hal e (List.mem_of_getElem? he)
   generalize sameSi e.canon d.canon=bb at *
   cases bb
   ·rw [if_pos (by decide)] at hsucc
    (refine AWp.seqR [0,1,4,5,7,8,9,10,11,12,13,30] [] (by decide +kernel) fun K hK=>?_;simp -implicitDefEqProofs only [EV,Nat.reduceAdd,Nat.reduceEqDiff,reduceCtorEq,TF9,TF78];refine⟨_,.inl ⟨_,rfl,hpk,rfl⟩,?_⟩;(try simp -implicitDefEqProofs only [EV,Nat.reduceAdd,Nat.reduceEqDiff,Nat.reduceBEq,Nat.reduceLeDiff,reduceCtorEq,TF78]);refine hK _ _ ?_;clear hK K)
    (refine AWp.seqR [0,1,4,5,7,8,9,10,11,12,13,30] [] (by decide +kernel) fun K hK=>?_;simp -implicitDefEqProofs only [EV,Nat.reduceAdd,Nat.reduceEqDiff,reduceCtorEq,TF78];refine⟨_,.inl ⟨_,rfl,ha,rfl⟩,?_⟩;(try simp -implicitDefEqProofs only [EV,Nat.reduceEqDiff,reduceCtorEq,]);refine hK _ _ ?_;clear hK K)
    refine AWp.condT rfl ?_
    (refine AWp.lastR [0,1,4,5,7,8,9,10,11,12,13,30] [] (by decide +kernel) fun K hK=>?_;simp -implicitDefEqProofs only [EV,Nat.reduceEqDiff,Nat.reduceBEq,Nat.reduceLeDiff,Nat.reduceMul,reduceCtorEq,TF9,TF76,TF78];refine⟨by simp,by unfold lim sm at *;omega,?_⟩;(try simp -implicitDefEqProofs only [EV,forall_const,implies_true,Nat.reduceAdd,Nat.reduceEqDiff,Nat.reduceBEq,Nat.reduceLeDiff,Nat.reduceSub,Nat.reduceMul,Int.reduceEq,Int.reduceLT,Int.reduceLE,Int.reduceSub,Int.reduceAdd,Int.reduceToNat,reduceCtorEq,Int.reduceNeg,TF3,TF4,TF9,TF75,TF76,TF78]);refine hK _ _ ?_;clear hK K;try simp only [thenA,blockA])
    refine hK2 _ _ ?_
    clear hK2 K2
    (refine AWp.lastR [0,1,4,5,7,8,9,10,11,12,13,30] [] (by decide +kernel) fun K hK=>?_;simp -implicitDefEqProofs only [EV,Nat.reduceEqDiff,reduceCtorEq,];refine⟨by first | (unfold InR;omega) | (simp only [InR,sm] at *;omega),?_⟩;(try simp -implicitDefEqProofs only [EV,forall_const,implies_true,Nat.reduceAdd,Nat.reduceEqDiff,Nat.reduceBEq,Nat.reduceLeDiff,Nat.reduceSub,Nat.reduceMul,Int.reduceEq,Int.reduceLT,Int.reduceLE,Int.reduceSub,Int.reduceAdd,Int.reduceToNat,reduceCtorEq,Int.reduceNeg,TF3,TF4,TF9,TF75,TF76,TF78]);refine hK _ _ ?_;clear hK K;try simp only [thenA,])
    exact⟨(),trivial,(by simp [sle,vle,sget]),by simp [ble,bget,hsucc,strR]⟩
   ·rw [if_neg (by decide),List.append_nil] at hsucc
    (refine AWp.seqR [0,1,4,5,7,8,9,10,11,12,13,30] [] (by decide +kernel) fun K hK=>?_;simp -implicitDefEqProofs only [EV,Nat.reduceAdd,Nat.reduceEqDiff,reduceCtorEq,TF9,TF78];refine⟨_,.inl ⟨_,rfl,hpk,rfl⟩,?_⟩;(try simp -implicitDefEqProofs only [EV,Nat.reduceAdd,Nat.reduceEqDiff,Nat.reduceBEq,Nat.reduceLeDiff,reduceCtorEq,TF78]);refine hK _ _ ?_;clear hK K)
    (refine AWp.seqR [0,1,4,5,7,8,9,10,11,12,13,30] [] (by decide +kernel) fun K hK=>?_;simp -implicitDefEqProofs only [EV,Nat.reduceAdd,Nat.reduceEqDiff,reduceCtorEq,TF78];refine⟨_,.inl ⟨_,rfl,ha,rfl⟩,?_⟩;(try simp -implicitDefEqProofs only [EV,Nat.reduceEqDiff,reduceCtorEq,]);refine hK _ _ ?_;clear hK K)
    refine AWp.condF rfl (AWp.skip (hK2 _ _ ?_))
    clear hK2 K2
    (refine AWp.lastR [0,1,4,5,7,8,9,10,11,12,13,30] [] (by decide +kernel) fun K hK=>?_;simp -implicitDefEqProofs only [EV,Nat.reduceEqDiff,reduceCtorEq,];refine⟨by first | (unfold InR;omega) | (simp only [InR,sm] at *;omega),?_⟩;(try simp -implicitDefEqProofs only [EV,forall_const,implies_true,Nat.reduceAdd,Nat.reduceEqDiff,Nat.reduceBEq,Nat.reduceLeDiff,Nat.reduceSub,Nat.reduceMul,Int.reduceEq,Int.reduceLT,Int.reduceLE,Int.reduceSub,Int.reduceAdd,Int.reduceToNat,reduceCtorEq,Int.reduceNeg,TF3,TF4,TF9,TF75,TF76,TF78]);refine hK _ _ ?_;clear hK K;try simp only [thenA,])
    exact⟨(),trivial,(by simp [sle,vle,sget]),by simp [ble,bget,hsucc]⟩
theorem ok_Covers (l m:List Sig)(hl:l.length≤sm)(hm:m.length≤sm)(hs:∀ s,s∈l→s.Sm)(ht:∀ s,s∈m→s.Sm):CallOK Tryz.prog 73 [.d (.slice (siR l)),.d (.slice (siR m))] (boolV (decide (missL l m=[]))):=by
 have h:=ok_Missing l m hl hm hs ht
 have e:decide (((missL l m).length:Int)=0)=decide (missL l m=[]):=by
  by_cases h0:missL l m=[]
  ·simp [h0]
  ·have h1:¬ ((missL l m).length:Int)=0:=by have:=List.length_pos_iff.2 h0;omega
   rw [decide_eq_false h0,decide_eq_false h1]
 rw [← e]
 generalize missL l m=z at *
 (refine CallOK.of_body Tryz.func73 rfl (by decide) (by rw [Tryz.ntmps73];simp) ?_;rw [Tryz.ntmps73])
 (refine AWp.seqR [0,1,4] [] (by decide +kernel) fun K hK=>?_;simp -implicitDefEqProofs only [EV,Nat.reduceAdd,Nat.reduceEqDiff,reduceCtorEq,];refine hK _ _ ?_;clear hK K)
 (refine AWp.seqR [0,1,4] [] (by decide +kernel) fun K hK=>?_;simp -implicitDefEqProofs only [EV,Nat.reduceAdd,Nat.reduceEqDiff,reduceCtorEq,];refine⟨_,.inl ⟨_,rfl,h,rfl⟩,?_⟩;(try simp -implicitDefEqProofs only [EV,Nat.reduceEqDiff,reduceCtorEq,TF76]);refine hK _ _ ?_;clear hK K)
 exact AWp.ret ⟨_,by rw [Tryz.results73];rfl,rfl⟩
theorem ok_RMissing (l m:List Sig)(hl:l.length≤sm)(hm:m.length≤sm)(hs:∀ s,s∈l→s.Sm)(ht:∀ s,s∈m→s.Sm):CallOK Tryz.prog 75 [.d (.slice (siR l)),.d (.slice (siR m))] (strsV (missL l m)):=by
 (refine CallOK.of_body Tryz.func75 rfl (by decide) (by rw [Tryz.ntmps75];simp) ?_;rw [Tryz.ntmps75])
 (refine AWp.seqR [0,1,4,5,6,7,11,34] [] (by decide +kernel) fun K hK=>?_;simp -implicitDefEqProofs only [EV,Nat.reduceAdd,Nat.reduceEqDiff,reduceCtorEq,];refine hK _ _ ?_;clear hK K)
 (refine AWp.seqR [0,1,4,5,6,7,11,34] [] (by decide +kernel) fun K hK=>?_;simp -implicitDefEqProofs only [EV,Nat.reduceEqDiff,reduceCtorEq,];refine hK _ _ ?_;clear hK K)
 refine AWp.promote 5 1 5 rfl ?_
 refine AWp.seqK fun K1 hK1=>?_
 (refine AWp.seqR [0,1,4,5,6,7,11,34] [] (by decide +kernel) fun K hK=>?_;simp -implicitDefEqProofs only [EV,Nat.reduceEqDiff,reduceCtorEq,];refine hK _ _ ?_;clear hK K)
 refine AWp.block (AWp.forIdx m (X:=Unit) (fun j _=>[(0,.d (.slice (siR l))),(1,.d (.slice (siR m))),(5,.acc 5),(6,intV j)]) (fun j _=>[(5,.rows 1 (strR (missL l (m.take j))))])
  (fun j _=>True) () trivial (by simp [sle,vle,sget]) (by simp [ble,bget,missL,strR]) ?_ ?_)
 ·intro _ _
  rw [List.take_length]
  refine AWp.seqK fun K2 hK2=>?_
  (refine AWp.seqR [0,1,4,5,6,7,11,34] [] (by decide +kernel) fun K hK=>?_;simp -implicitDefEqProofs only [EV,Nat.reduceEqDiff,reduceCtorEq,TF75,Int.lt_irrefl];refine hK _ _ ?_;clear hK K)
  refine AWp.stopK rfl ?_
  simp only [thenA,blockA,if_true]
  refine hK1 _ _ ?_
  (refine AWp.seqR [0,1,4,5,6,7,11,34] [] (by decide +kernel) fun K hK=>?_;simp -implicitDefEqProofs only [EV,Nat.reduceEqDiff,reduceCtorEq,];refine hK _ _ ?_;clear hK K)
  exact AWp.ret ⟨_,by rw [Tryz.results75];rfl,rfl⟩
 ·intro j _ d hd hmem hdrop htake hlt _
  have hlen:=missL_len l m j
  have hsucc:=missL_succ (l:=l) htake
  have hpk:=ok_RefFind12 l d.name hl
  have hdm:=ht d hmem
  have hal:∀ e,e∈l→CallOK Tryz.prog 126 [siV e,siV d] (boolV (sameSi e.canon d.canon)):=fun e hem=>ok_RAlike e d (hs e hem) hdm
  have hc:=idxF_cases (fun s:Sig=>decide (s.name=d.name)) l
  unfold missB at hsucc
  unfold nameI at *
  generalize idxF (fun s:Sig=>decide (s.name=d.name)) l=k at *
  refine AWp.seqK fun K2 hK2=>?_
  (refine AWp.seqR [0,1,4,5,6,7,11,34] [] (by decide +kernel) fun K hK=>?_;simp -implicitDefEqProofs only [EV,Nat.reduceEqDiff,reduceCtorEq,TF75,hlt];refine hK _ _ ?_;clear hK K)
  refine AWp.goOnK rfl hK2 ?_
  clear hK2 K2
  refine AWp.seqK fun K2 hK2=>?_
  refine AWp.block ?_
  (refine AWp.seqR [0,1,4,5,6,7,11,34] [] (by decide +kernel) fun K hK=>?_;simp -implicitDefEqProofs only [EV,Nat.reduceEqDiff,reduceCtorEq,TF9,TF75,TF78];refine⟨by omega,_,siR_get hd,rfl,?_⟩;(try simp -implicitDefEqProofs only [EV,Nat.reduceAdd,Nat.reduceEqDiff,reduceCtorEq,]);refine⟨_,.inl ⟨_,rfl,hpk,rfl⟩,?_⟩;(try simp -implicitDefEqProofs only [EV,]);refine hK _ _ ?_;clear hK K)
  rcases hc with ⟨rfl,_⟩ | ⟨q,e,rfl,he,_⟩
  ·rw [if_pos (show (-1:Int) < 0 by decide)] at hsucc
   rw [if_pos rfl] at hsucc
   (refine AWp.seqD [0,1,4,5,6,7,11,34] [] 14 mixed (by decide +kernel) (by decide +kernel) fun K hK=>?_;simp -implicitDefEqProofs only [EV,Nat.reduceEqDiff,Int.reduceLT,reduceCtorEq,Int.reduceNeg,];refine hK _ _ ?_;clear hK K)
   refine AWp.condT rfl ?_
   (refine AWp.lastR [0,1,4,5,6,7,11,34] [] (by decide +kernel) fun K hK=>?_;simp -implicitDefEqProofs only [EV,Nat.reduceEqDiff,reduceCtorEq,Int.reduceNeg,TF9,TF75,TF78];refine⟨by omega,_,siR_get hd,rfl,?_⟩;(try simp -implicitDefEqProofs only [EV,Nat.reduceEqDiff,Nat.reduceBEq,Nat.reduceLeDiff,Nat.reduceMul,reduceCtorEq,Int.reduceNeg,TF9,TF76]);refine⟨by simp,by unfold lim sm at *;omega,?_⟩;(try simp -implicitDefEqProofs only [EV,forall_const,implies_true,Nat.reduceAdd,Nat.reduceEqDiff,Nat.reduceBEq,Nat.reduceLeDiff,Nat.reduceSub,Nat.reduceMul,Int.reduceEq,Int.reduceLT,Int.reduceLE,Int.reduceSub,Int.reduceAdd,Int.reduceToNat,reduceCtorEq,Int.reduceNeg,TF3,TF4,TF9,TF75,TF76,TF78]);refine hK _ _ ?_;clear hK K;try simp only [thenA,blockA])
   refine hK2 _ _ ?_
   clear hK2 K2
   (refine AWp.lastR [0,1,4,5,6,7,11,34] [] (by decide +kernel) fun K hK=>?_;simp -implicitDefEqProofs only [EV,Nat.reduceEqDiff,reduceCtorEq,Int.reduceNeg,];refine⟨by first | (unfold InR;omega) | (simp only [InR,sm] at *;omega),?_⟩;(try simp -implicitDefEqProofs only [EV,forall_const,implies_true,Nat.reduceAdd,Nat.reduceEqDiff,Nat.reduceBEq,Nat.reduceLeDiff,Nat.reduceSub,Nat.reduceMul,Int.reduceEq,Int.reduceLT,Int.reduceLE,Int.reduceSub,Int.reduceAdd,Int.reduceToNat,reduceCtorEq,Int.reduceNeg,TF3,TF4,TF9,TF75,TF76,TF78]);refine hK _ _ ?_;clear hK K;try simp only [thenA,])
   exact⟨(),trivial,(by simp [sle,vle,sget]),by simp [ble,bget,hsucc,strR]⟩
  ·have hge:¬ (q:Int) < 0:=by omega
   rw [if_neg hge] at hsucc
   simp only [Int.toNat_natCast,he,Option.getD_some] at hsucc
   have ha:=hal e (List.mem_of_getElem? he)
   generalize sameSi e.canon d.canon=bb at *
   cases bb
   ·rw [if_pos (by decide)] at hsucc
    (refine AWp.seqD [0,1,4,5,6,7,11,34] [] 14 mixed (by decide +kernel) (by decide +kernel) fun K hK=>?_;simp -implicitDefEqProofs only [EV,Nat.reduceEqDiff,reduceCtorEq,TF75,TF78,hge];refine⟨by omega,_,siR_get he,rfl,?_⟩;(try simp -implicitDefEqProofs only [EV,Nat.reduceAdd,Nat.reduceEqDiff,reduceCtorEq,TF75,TF78]);refine⟨by omega,_,siR_get hd,rfl,?_⟩;(try simp -implicitDefEqProofs only [EV,Nat.reduceAdd,Nat.reduceEqDiff,reduceCtorEq,]);refine⟨_,.inl ⟨_,rfl,ha,rfl⟩,?_⟩;(try simp -implicitDefEqProofs only [EV,Nat.reduceEqDiff,reduceCtorEq,]);refine hK _ _ ?_;clear hK K)
    refine AWp.condT rfl ?_
    (refine AWp.lastR [0,1,4,5,6,7,11,34] [] (by decide +kernel) fun K hK=>?_;simp -implicitDefEqProofs only [EV,Nat.reduceEqDiff,reduceCtorEq,TF9,TF75,TF78];refine⟨by omega,_,siR_get hd,rfl,?_⟩;(try simp -implicitDefEqProofs only [EV,Nat.reduceEqDiff,Nat.reduceBEq,Nat.reduceLeDiff,Nat.reduceMul,reduceCtorEq,TF9,TF76]);refine⟨by simp,by unfold lim sm at *;omega,?_⟩;(try simp -implicitDefEqProofs only [EV,forall_const,implies_true,Nat.reduceAdd,Nat.reduceEqDiff,Nat.reduceBEq,Nat.reduceLeDiff,Nat.reduceSub,Nat.reduceMul,Int.reduceEq,Int.reduceLT,Int.reduceLE,Int.reduceSub,Int.reduceAdd,Int.reduceToNat,reduceCtorEq,Int.reduceNeg,TF3,TF4,TF9,TF75,TF76,TF78]);refine hK _ _ ?_;clear hK K;try simp only [thenA,blockA])
    refine hK2 _ _ ?_
    clear hK2 K2
    (refine AWp.lastR [0,1,4,5,6,7,11,34] [] (by decide +kernel) fun K hK=>?_;simp -implicitDefEqProofs only [EV,Nat.reduceEqDiff,reduceCtorEq,];refine⟨by first | (unfold InR;omega) | (simp only [InR,sm] at *;omega),?_⟩;(try simp -implicitDefEqProofs only [EV,forall_const,implies_true,Nat.reduceAdd,Nat.reduceEqDiff,Nat.reduceBEq,Nat.reduceLeDiff,Nat.reduceSub,Nat.reduceMul,Int.reduceEq,Int.reduceLT,Int.reduceLE,Int.reduceSub,Int.reduceAdd,Int.reduceToNat,reduceCtorEq,Int.reduceNeg,TF3,TF4,TF9,TF75,TF76,TF78]);refine hK _ _ ?_;clear hK K;try simp only [thenA,])
    exact⟨(),trivial,(by simp [sle,vle,sget]),by simp [ble,bget,hsucc,strR]⟩
   ·rw [if_neg (by decide),List.append_nil] at hsucc
    (refine AWp.seqD [0,1,4,5,6,7,11,34] [] 14 mixed (by decide +kernel) (by decide +kernel) fun K hK=>?_;simp -implicitDefEqProofs only [EV,Nat.reduceEqDiff,reduceCtorEq,TF75,TF78,hge];refine⟨by omega,_,siR_get he,rfl,?_⟩;(try simp -implicitDefEqProofs only [EV,Nat.reduceAdd,Nat.reduceEqDiff,reduceCtorEq,TF75,TF78]);refine⟨by omega,_,siR_get hd,rfl,?_⟩;(try simp -implicitDefEqProofs only [EV,Nat.reduceAdd,Nat.reduceEqDiff,reduceCtorEq,]);refine⟨_,.inl ⟨_,rfl,ha,rfl⟩,?_⟩;(try simp -implicitDefEqProofs only [EV,Nat.reduceEqDiff,reduceCtorEq,]);refine hK _ _ ?_;clear hK K)
    refine AWp.condF rfl (AWp.skip (hK2 _ _ ?_))
    clear hK2 K2
    (refine AWp.lastR [0,1,4,5,6,7,11,34] [] (by decide +kernel) fun K hK=>?_;simp -implicitDefEqProofs only [EV,Nat.reduceEqDiff,reduceCtorEq,];refine⟨by first | (unfold InR;omega) | (simp only [InR,sm] at *;omega),?_⟩;(try simp -implicitDefEqProofs only [EV,forall_const,implies_true,Nat.reduceAdd,Nat.reduceEqDiff,Nat.reduceBEq,Nat.reduceLeDiff,Nat.reduceSub,Nat.reduceMul,Int.reduceEq,Int.reduceLT,Int.reduceLE,Int.reduceSub,Int.reduceAdd,Int.reduceToNat,reduceCtorEq,Int.reduceNeg,TF3,TF4,TF9,TF75,TF76,TF78]);refine hK _ _ ?_;clear hK K;try simp only [thenA,])
    exact⟨(),trivial,(by simp [sle,vle,sget]),by simp [ble,bget,hsucc]⟩
end Go.Abs
