/- impl.IsInterface, Implements, Bounds; their references -/
import Derived.Test.YtenheogknlmohaaGreatDoorYS23
namespace Go.Abs
set_option linter.unusedSimpArgs false
set_option linter.unusedVariables false
open Go Go.Proofs
set_option maxRecDepth 100000
set_option maxHeartbeats 1000000
theorem specL_Sm {vars:List Str} {args:List Ty} (ha:∀ u,u∈args→u.Sm) {l:List Sig} (hl:∀ s,s∈l→s.Sm)(j:Nat):∀ s,s∈specL vars args l j→s.Sm:=fun s hs=>by
 unfold specL at hs
 obtain⟨⟨x,i⟩,hx,rfl⟩:=List.mem_map.1 hs
 have h1:=(List.mem_filter.1 hx).1
 have h2:=List.mem_of_mem_take (List.fst_mem_of_mem_zipIdx h1)
 exact Sig.Sm.subst ha (hl x h2).canon
theorem setU_Sm {p:Prog} (h:p.Sm) {env:List Formal} (he:∀ f,f∈env→f.Sm) {x:Ty} (hx:x.Sm):∀ s,s∈setU p env x→s.Sm:=by
 have hy:((boundV env x).getD x).Sm:=by
  cases hb:boundV env x with
  | none=>exact hx
  | some y=>exact bound_Sm he hb
 unfold setU
 generalize (boundV env x).getD x=y at *
 intro s hs
 split at hs
 ·rename_i hi
  unfold specsT at hs
  rw [if_pos hi] at hs
  obtain⟨d,hd,_⟩:=inst_decl (by decide) hi
  rw [hd,Option.getD_some] at hs
  exact specL_Sm hy.arg (h.decls.2 d (declT_mem hd)).sigs.2 _ s hs
 ·split at hs
  ·simp at hs
  ·unfold methL at hs
   obtain⟨⟨d,i⟩,hx,rfl⟩:=List.mem_map.1 hs
   have h1:=(List.mem_filter.1 hx).1
   have h2:d∈p.decls:=List.mem_of_mem_take (List.fst_mem_of_mem_zipIdx h1)
   exact Sig.Sm.subst hy.arg (h.decls.2 d h2).sig.canon
theorem setU_len {p:Prog} (h:p.Sm)(env:List Formal)(x:Ty):(setU p env x).length≤sm:=by
 unfold setU
 split
 ·exact specsT_len p h _
 ·split
  ·simp
  ·exact Nat.le_trans (methL_len ..) h.decls.1
theorem setT_Sm {p:Prog} (h:p.Sm) {env:List Formal} (he:∀ f,f∈env→f.Sm) {x:Ty} (hx:x.Sm):∀ s,s∈setT p env x→s.Sm:=fun s hs=>setU_Sm h he hx s ((sortSi_perm _).mem_iff.1 hs)
theorem setT_len {p:Prog} (h:p.Sm)(env:List Formal)(x:Ty):(setT p env x).length≤sm:=by
 unfold setT;rw [(sortSi_perm _).length_eq];exact setU_len h env x
def isIface (p:Prog)(env:List Formal)(x:Ty):Bool:=instB p x 2 && !(boundV env x).isSome
theorem ok_IsInterface (p:Prog)(h:p.Sm)(env:List Formal)(hel:env.length≤sm)(he:∀ f,f∈env→f.Sm)(x:Ty)(hx:x.Sm):CallOK Tryz.prog 33 [.dptr (tabC p) 0,.d (.slice (foR env)),tyV x] (boolV (isIface p env x)):=by
 have hb:=ok_Bound env x hel he
 have hsp:=ok_TSpecs p h x hx
 unfold isIface
 generalize boundV env x=o at *
 generalize instB p x 2=bb at *
 (refine CallOK.of_body Tryz.func33 rfl (by decide) (by rw [Tryz.ntmps33];simp) ?_;rw [Tryz.ntmps33])
 (refine AWp.seqR [0,1,2,5,6,8,10,20] [] (by decide +kernel) fun K hK=>?_;simp -implicitDefEqProofs only [EV,Nat.reduceAdd,Nat.reduceEqDiff,Nat.reduceLeDiff,reduceCtorEq,];refine hK _ _ ?_;clear hK K)
 cases o with
 | none =>
  simp only [bndV] at hb
  (refine AWp.seqR [0,1,2,5,6,8,10,20] [] (by decide +kernel) fun K hK=>?_;simp -implicitDefEqProofs only [EV,Nat.reduceAdd,Nat.reduceEqDiff,reduceCtorEq,TF25];refine⟨_,.inl ⟨_,rfl,hb,rfl⟩,?_⟩;(try simp -implicitDefEqProofs only [EV,Nat.reduceAdd,Nat.reduceEqDiff,Nat.reduceBEq,Nat.reduceLeDiff,reduceCtorEq,TF25]);refine hK _ _ ?_;clear hK K)
  (refine AWp.seqR [0,1,2,5,6,8,10,20] [20] (by decide +kernel) fun K hK=>?_;simp -implicitDefEqProofs only [EV,Nat.reduceAdd,Nat.reduceEqDiff,Nat.reduceBEq,Nat.reduceLeDiff,reduceCtorEq,TF25];refine⟨_,_,_,_,_,rfl,hsp,?_⟩;(try simp -implicitDefEqProofs only [EV,Nat.reduceEqDiff,reduceCtorEq,]);refine hK _ _ ?_;clear hK K)
  cases bb
  ·(refine AWp.seqR [0,1,2,5,6,8,10,20] [] (by decide +kernel) fun K hK=>?_;simp -implicitDefEqProofs only [EV,Nat.reduceEqDiff,reduceCtorEq,];refine hK _ _ ?_;clear hK K)
   exact AWp.ret ⟨_,by rw [Tryz.results33];rfl,rfl⟩
  ·(refine AWp.seqR [0,1,2,5,6,8,10,20] [] (by decide +kernel) fun K hK=>?_;simp -implicitDefEqProofs only [EV,Nat.reduceEqDiff,reduceCtorEq,];refine hK _ _ ?_;clear hK K)
   exact AWp.ret ⟨_,by rw [Tryz.results33];rfl,rfl⟩
 | some y =>
  simp only [bndV] at hb
  (refine AWp.seqR [0,1,2,5,6,8,10,20] [] (by decide +kernel) fun K hK=>?_;simp -implicitDefEqProofs only [EV,Nat.reduceAdd,Nat.reduceEqDiff,reduceCtorEq,TF25];refine⟨_,.inl ⟨_,rfl,hb,rfl⟩,?_⟩;(try simp -implicitDefEqProofs only [EV,Nat.reduceAdd,Nat.reduceEqDiff,Nat.reduceBEq,Nat.reduceLeDiff,reduceCtorEq,TF25]);refine hK _ _ ?_;clear hK K)
  (refine AWp.seqR [0,1,2,5,6,8,10,20] [20] (by decide +kernel) fun K hK=>?_;simp -implicitDefEqProofs only [EV,Nat.reduceAdd,Nat.reduceEqDiff,Nat.reduceBEq,Nat.reduceLeDiff,reduceCtorEq,TF25];refine⟨_,_,_,_,_,rfl,hsp,?_⟩;(try simp -implicitDefEqProofs only [EV,Nat.reduceEqDiff,reduceCtorEq,]);refine hK _ _ ?_;clear hK K)
  cases bb
  ·(refine AWp.seqR [0,1,2,5,6,8,10,20] [] (by decide +kernel) fun K hK=>?_;simp -implicitDefEqProofs only [EV,Nat.reduceEqDiff,reduceCtorEq,];refine hK _ _ ?_;clear hK K)
   exact AWp.ret ⟨_,by rw [Tryz.results33];rfl,rfl⟩
  ·(refine AWp.seqR [0,1,2,5,6,8,10,20] [] (by decide +kernel) fun K hK=>?_;simp -implicitDefEqProofs only [EV,Nat.reduceEqDiff,reduceCtorEq,];refine hK _ _ ?_;clear hK K)
   exact AWp.ret ⟨_,by rw [Tryz.results33];rfl,rfl⟩
theorem boundV_isSome (env:List Formal)(x:Ty):(boundV env x).isSome = !decide (findV env x < 0):=by
 unfold boundV
 split
 ·rename_i h0;simp [h0]
 ·rename_i h0
  obtain⟨f,hf,_⟩:=findV_get h0
  simp [hf,h0]
theorem ok_RIsInterface (p:Prog)(env:List Formal)(hel:env.length≤sm)(x:Ty):CallOK Tryz.prog 34 [prV p,.d (.slice (foR env)),tyV x] (boolV (isIface p env x)):=by
 have hf:=ok_RefFind env x hel
 have hi:=ok_RefInstance p x 2
 unfold isIface
 rw [boundV_isSome]
 generalize findV env x=k at *
 generalize instB p x 2=bb at *
 (refine CallOK.of_body Tryz.func34 rfl (by decide) (by rw [Tryz.ntmps34];simp) ?_;rw [Tryz.ntmps34])
 (refine AWp.seqR [0,1,2,3,5,6] [] (by decide +kernel) fun K hK=>?_;simp -implicitDefEqProofs only [EV,Nat.reduceAdd,Nat.reduceEqDiff,Nat.reduceBEq,Nat.reduceLeDiff,reduceCtorEq,];refine hK _ _ ?_;clear hK K)
 by_cases hk:k < 0
 ·(refine AWp.seqR [0,1,2,3,5,6] [] (by decide +kernel) fun K hK=>?_;simp -implicitDefEqProofs only [EV,Nat.reduceAdd,Nat.reduceEqDiff,reduceCtorEq,TF25,];refine⟨_,.inl ⟨_,rfl,hf,rfl⟩,?_⟩;(try simp -implicitDefEqProofs only [EV,Nat.reduceAdd,Nat.reduceEqDiff,reduceCtorEq,TF25,TF30,hk]);refine⟨_,.inl ⟨_,rfl,hi,rfl⟩,?_⟩;(try simp -implicitDefEqProofs only [EV,]);refine hK _ _ ?_;clear hK K)
  simp only [hk,decide_true,Bool.not_true,Bool.not_false,Bool.and_true]
  exact AWp.ret ⟨_,by rw [Tryz.results34];rfl,rfl⟩
 ·(refine AWp.seqR [0,1,2,3,5,6] [] (by decide +kernel) fun K hK=>?_;simp -implicitDefEqProofs only [EV,Nat.reduceAdd,Nat.reduceEqDiff,reduceCtorEq,TF25,];refine⟨_,.inl ⟨_,rfl,hf,rfl⟩,?_⟩;(try simp -implicitDefEqProofs only [EV,Nat.reduceEqDiff,reduceCtorEq,hk]);refine hK _ _ ?_;clear hK K)
  simp only [hk,decide_false,Bool.not_true,Bool.not_false,Bool.and_false]
  exact AWp.ret ⟨_,by rw [Tryz.results34];rfl,rfl⟩
def implB (p:Prog)(env:List Formal)(t i:Ty):Bool:=if isIface p env i=true then decide (missL (setT p env t) (setT p env i)=[]) else sameT t i
theorem ok_Implements (p:Prog)(h:p.Sm)(env:List Formal)(hel:env.length≤sm)(he:∀ f,f∈env→f.Sm)(t i:Ty)(ht:t.Sm)(hi:i.Sm):CallOK Tryz.prog 31 [.dptr (tabC p) 0,.d (.slice (foR env)),tyV t,tyV i] (boolV (implB p env t i)):=by
 have h1:=ok_IsInterface p h env hel he i hi
 have h2:=ok_TSame t i ht
 have h3:=ok_Set p h env hel he t ht
 have h4:=ok_Set p h env hel he i hi
 have h5:=ok_Covers (setT p env t) (setT p env i) (setT_len h env t) (setT_len h env i) (setT_Sm h he ht) (setT_Sm h he hi)
 unfold implB
 generalize isIface p env i=bb at *
 generalize setT p env t=l at *
 generalize setT p env i=m at *
 (refine CallOK.of_body Tryz.func31 rfl (by decide) (by rw [Tryz.ntmps31];simp) ?_;rw [Tryz.ntmps31])
 (refine AWp.seqR [0,1,2,3,6,7,8,13] [] (by decide +kernel) fun K hK=>?_;simp -implicitDefEqProofs only [EV,Nat.reduceAdd,Nat.reduceEqDiff,Nat.reduceBEq,Nat.reduceLeDiff,reduceCtorEq,];refine hK _ _ ?_;clear hK K)
 cases bb
 ·rw [if_neg (by decide)]
  refine AWp.seqK fun K1 hK1=>?_
  (refine AWp.seqR [0,1,2,3,6,7,8,13] [] (by decide +kernel) fun K hK=>?_;simp -implicitDefEqProofs only [EV,Nat.reduceAdd,Nat.reduceEqDiff,reduceCtorEq,TF25];refine⟨_,.inl ⟨_,rfl,h1,rfl⟩,?_⟩;(try simp -implicitDefEqProofs only [EV,Nat.reduceEqDiff,reduceCtorEq,]);refine hK _ _ ?_;clear hK K)
  refine AWp.takeIfK rfl ?_
  (refine AWp.seqR [0,1,2,3,6,7,8,13] [] (by decide +kernel) fun K hK=>?_;simp -implicitDefEqProofs only [EV,Nat.reduceAdd,Nat.reduceEqDiff,reduceCtorEq,TF25];refine⟨_,.inl ⟨_,rfl,h2,rfl⟩,?_⟩;(try simp -implicitDefEqProofs only [EV,]);refine hK _ _ ?_;clear hK K)
  exact AWp.ret ⟨_,by rw [Tryz.results31];rfl,rfl⟩
 ·rw [if_pos rfl]
  refine AWp.seqK fun K1 hK1=>?_
  (refine AWp.seqR [0,1,2,3,6,7,8,13] [] (by decide +kernel) fun K hK=>?_;simp -implicitDefEqProofs only [EV,Nat.reduceAdd,Nat.reduceEqDiff,reduceCtorEq,TF25];refine⟨_,.inl ⟨_,rfl,h1,rfl⟩,?_⟩;(try simp -implicitDefEqProofs only [EV,Nat.reduceEqDiff,reduceCtorEq,]);refine hK _ _ ?_;clear hK K)
  refine AWp.skipIfK rfl hK1 ?_
  (refine AWp.seqD [0,1,2,3,6,7,8,13] [] 10 mixed (by decide +kernel) (by decide +kernel) fun K hK=>?_;simp -implicitDefEqProofs only [EV,Nat.reduceAdd,Nat.reduceEqDiff,reduceCtorEq,TF25];refine⟨_,.inl ⟨_,rfl,h3,rfl⟩,?_⟩;(try simp -implicitDefEqProofs only [EV,]);refine⟨_,.inl ⟨_,rfl,h4,rfl⟩,?_⟩;(try simp -implicitDefEqProofs only [EV,]);refine⟨_,.inl ⟨_,rfl,h5,rfl⟩,?_⟩;(try simp -implicitDefEqProofs only [EV,]);refine hK _ _ ?_;clear hK K)
  exact AWp.ret ⟨_,by rw [Tryz.results31];rfl,rfl⟩
theorem ok_RImplements (p:Prog)(h:p.Sm)(env:List Formal)(hel:env.length≤sm)(he:∀ f,f∈env→f.Sm)(t i:Ty)(ht:t.Sm)(hi:i.Sm):CallOK Tryz.prog 32 [prV p,.d (.slice (foR env)),tyV t,tyV i] (boolV (implB p env t i)):=by
 have h1:=ok_RIsInterface p env hel i
 have h2:=ok_RSame t i ht
 have h3:=ok_RSet p h env hel he t ht
 have h4:=ok_RSet p h env hel he i hi
 have h5:=ok_RMissing (setT p env t) (setT p env i) (setT_len h env t) (setT_len h env i) (setT_Sm h he ht) (setT_Sm h he hi)
 unfold implB
 generalize isIface p env i=bb at *
 generalize setT p env t=l at *
 generalize setT p env i=m at *
 have e:decide (((missL l m).length:Int)=0)=decide (missL l m=[]):=by
  by_cases h0:missL l m=[]
  ·simp [h0]
  ·have h1:¬ ((missL l m).length:Int)=0:=by have:=List.length_pos_iff.2 h0;omega
   rw [decide_eq_false h0,decide_eq_false h1]
 rw [← e]
 generalize missL l m=z at *
 (refine CallOK.of_body Tryz.func32 rfl (by decide) (by rw [Tryz.ntmps32];simp) ?_;rw [Tryz.ntmps32])
 (refine AWp.seqR [0,1,2,3,4,6,7,8,12] [] (by decide +kernel) fun K hK=>?_;simp -implicitDefEqProofs only [EV,Nat.reduceAdd,Nat.reduceEqDiff,Nat.reduceBEq,Nat.reduceLeDiff,reduceCtorEq,];refine hK _ _ ?_;clear hK K)
 cases bb
 ·rw [if_neg (by decide)]
  refine AWp.seqK fun K1 hK1=>?_
  (refine AWp.seqR [0,1,2,3,4,6,7,8,12] [] (by decide +kernel) fun K hK=>?_;simp -implicitDefEqProofs only [EV,Nat.reduceAdd,Nat.reduceEqDiff,reduceCtorEq,TF25,TF30];refine⟨_,.inl ⟨_,rfl,h1,rfl⟩,?_⟩;(try simp -implicitDefEqProofs only [EV,]);refine hK _ _ ?_;clear hK K)
  refine AWp.skipIfK rfl hK1 ?_
  (refine AWp.seqR [0,1,2,3,4,6,7,8,12] [] (by decide +kernel) fun K hK=>?_;simp -implicitDefEqProofs only [EV,Nat.reduceAdd,Nat.reduceEqDiff,reduceCtorEq,TF25];refine⟨_,.inl ⟨_,rfl,h2,rfl⟩,?_⟩;(try simp -implicitDefEqProofs only [EV,]);refine hK _ _ ?_;clear hK K)
  exact AWp.ret ⟨_,by rw [Tryz.results32];rfl,rfl⟩
 ·rw [if_pos rfl]
  refine AWp.seqK fun K1 hK1=>?_
  (refine AWp.seqR [0,1,2,3,4,6,7,8,12] [] (by decide +kernel) fun K hK=>?_;simp -implicitDefEqProofs only [EV,Nat.reduceAdd,Nat.reduceEqDiff,reduceCtorEq,TF25,TF30];refine⟨_,.inl ⟨_,rfl,h1,rfl⟩,?_⟩;(try simp -implicitDefEqProofs only [EV,]);refine hK _ _ ?_;clear hK K)
  refine AWp.takeIfK rfl ?_
  (refine AWp.seqD [0,1,2,3,4,6,7,8,12] [] 12 mixed (by decide +kernel) (by decide +kernel) fun K hK=>?_;simp -implicitDefEqProofs only [EV,Nat.reduceAdd,Nat.reduceEqDiff,reduceCtorEq,TF25,TF30];refine⟨_,.inl ⟨_,rfl,h3,rfl⟩,?_⟩;(try simp -implicitDefEqProofs only [EV,]);refine⟨_,.inl ⟨_,rfl,h4,rfl⟩,?_⟩;(try simp -implicitDefEqProofs only [EV,]);refine⟨_,.inl ⟨_,rfl,h5,rfl⟩,?_⟩;(try simp -implicitDefEqProofs only [EV,Nat.reduceEqDiff,reduceCtorEq,TF76]);refine hK _ _ ?_;clear hK K)
  exact AWp.ret ⟨_,by rw [Tryz.results32];rfl,rfl⟩
end Go.Abs
