/- the signatures of an interface: castingsref11.Specs, table.Specs -/
import Derived.Test.YtenheogknlmohaaGreatDoorYS17
namespace Go.Abs
set_option linter.unusedSimpArgs false
set_option linter.unusedVariables false
open Go Go.Proofs
set_option maxRecDepth 100000
set_option maxHeartbeats 1000000
def nmD (l:List Str):List (D × D):=l.map fun s=>(.str s,.bool true)
def addN (l:List Str)(s:Str):List Str:=if s∈l then l else l++[s]
theorem kfind_nmD (s:Str):∀ (l:List Str)(i:Nat),(s∈l→∃ j,l[j]? = some s∧kfind (D.str s).lits (nmD l) i=some (i+j,.bool true))∧(s ∉ l→kfind (D.str s).lits (nmD l) i=none)
 | [],i=>by simp [nmD,kfind]
 | x::l,i=>by
  have ih:=kfind_nmD s l (i+1)
  have he:nmD (x::l)=(.str x,.bool true)::nmD l:=rfl
  rw [he]
  simp only [kfind]
  by_cases hx:s=x
  ·subst hx
   refine⟨fun _=>⟨0,rfl,by simp⟩,fun h=>absurd (List.mem_cons_self ..) h⟩
  ·have hne:¬ (D.str s).lits=(D.str x).lits:=by simp [D.lits,D.lit,hx]
   rw [if_neg hne]
   refine⟨fun h=>?_,fun h=>ih.2 fun h'=>h (by simp [h'])⟩
   obtain⟨j,h1,h2⟩:=ih.1 ((List.mem_cons.1 h).resolve_left hx)
   exact⟨j+1,by simpa using h1,by rw [h2];congr 2;omega⟩
theorem kput_nmD (s:Str)(l:List Str):kput (.str s) (.bool true) (nmD l)=nmD (addN l s):=by
 unfold kput addN
 by_cases h:s∈l
 ·obtain⟨j,h1,h2⟩:=(kfind_nmD s l 0).1 h
  rw [h2,if_pos h]
  have hj:=(List.getElem?_eq_some_iff.1 h1).1
  have hjs:l[j]=s:=(List.getElem?_eq_some_iff.1 h1).2
  simp only [Nat.zero_add]
  apply List.ext_getElem?
  intro k
  by_cases hk:k=j
  ·subst hk
   rw [List.getElem?_set_self (by simpa [nmD] using hj)]
   simp [nmD,h1]
  ·rw [List.getElem?_set_ne (by omega)]
 ·rw [(kfind_nmD s l 0).2 h,if_neg h]
  simp [nmD]
theorem look_nmD (s:Str)(l:List Str):lookV (.str s) (nmD l) (.d (.bool false))=boolV (decide (s∈l)):=by
 unfold lookV
 by_cases h:s∈l
 ·obtain⟨j,h1,h2⟩:=(kfind_nmD s l 0).1 h
  rw [h2];simp [ofD,h]
 ·rw [(kfind_nmD s l 0).2 h];simp [h]
theorem mem_addN {l:List Str} {s x:Str}:x∈addN l s↔x=s∨x∈l:=by
 unfold addN
 split
 ·constructor
  ·exact .inr
  ·rintro (rfl | h)
   ·assumption
   ·exact h
 ·simp [or_comm]
theorem keyS (s:Str)(h:s.length≤lim):KeyAt Tryz.prog 9 (.str s):=by
 have hu:Tryz.prog.underlying 9=some .string:=TF9.2.2.2.2.1
 refine⟨rfl,by simp [D.kv,D.lit,Lit.value,Value.formed,hu],?_⟩
 simp [D.kv,D.lit,D.lits,Lit.value,Value.cells,Program.keyLits,hu,ByteArray.size]
 unfold lim at h;unfold maxLen;omega
theorem nmD_keys {l:List Str} (h:∀ s,s∈l→s.length≤lim):∀ kv,kv∈nmD l→KeyAt Tryz.prog 9 kv.1:=by
 intro kv hkv
 obtain⟨s,hs,rfl⟩:=List.mem_map.1 hkv
 exact keyS s (h s hs)
def seenN (l:List Sig):List Str:=l.foldl (fun m s=>addN m s.name) []
theorem seenN_append (l:List Sig)(d:Sig):seenN (l++[d])=addN (seenN l) d.name:=by simp [seenN]
theorem mem_foldN (l:List Sig)(s:Str):∀ m:List Str,s∈l.foldl (fun m s=>addN m s.name) m↔s∈m∨∃ y,y∈l∧y.name=s:=by
 induction l with
 | nil=>simp
 | cons a l ih =>
  intro m
  rw [List.foldl_cons,ih,mem_addN]
  simp only [List.mem_cons]
  constructor
  ·rintro ((rfl | h) | ⟨y,h1,h2⟩)
   ·exact .inr ⟨a,.inl rfl,rfl⟩
   ·exact .inl h
   ·exact .inr ⟨y,.inr h1,h2⟩
  ·rintro (h | ⟨y,rfl | h1,h2⟩)
   ·exact .inl (.inr h)
   ·exact .inl (.inl h2.symm)
   ·exact .inr ⟨y,h1,h2⟩
theorem mem_seenN (l:List Sig)(s:Str):s∈seenN l↔∃ y,y∈l∧y.name=s:=by unfold seenN;rw [mem_foldN];simp
def newB (l:List Sig)(s:Sig)(i:Nat):Bool:=decide (∀ y,y∈l.take i→y.name≠s.name)
def specL (vars:List Str)(args:List Ty)(l:List Sig)(j:Nat):List Sig:=((l.take j).zipIdx.filter fun si=>newB l si.1 si.2).map fun si=>si.1.canon.subst vars args
theorem specL_succ {vars:List Str} {args:List Ty} {l:List Sig} {j:Nat} {d:Sig} (hj:j < l.length)(ht:l.take (j+1)=l.take j++[d]):specL vars args l (j+1)=specL vars args l j++if newB l d j=true then [d.canon.subst vars args] else []:=by
 unfold specL
 have hlen:(l.take j).length=j:=by rw [List.length_take];omega
 rw [ht,List.zipIdx_append,List.filter_append,List.map_append,hlen]
 congr 1
 simp only [List.zipIdx_cons,List.zipIdx_nil,Nat.zero_add,List.filter_cons,List.filter_nil]
 split <;> simp_all
theorem specL_len (vars:List Str)(args:List Ty)(l:List Sig)(j:Nat):(specL vars args l j).length≤j:=by
 unfold specL
 rw [List.length_map]
 refine Nat.le_trans (List.length_filter_le ..) ?_
 rw [List.length_zipIdx,List.length_take];omega
def specsD (d:Decl)(x:Ty):List Sig:=specL (fnames d.formals) x.args d.sigs d.sigs.length
def specsT (p:Prog)(x:Ty):List Sig:=if instB p x 2=true then specsD ((declT p x.name).getD default) x else []
theorem inst_decl {p:Prog} {x:Ty} {k:Int} (hk:k≠0)(h:instB p x k=true):∃ d,declT p x.name=some d∧d.kind=k∧d.formals.length=x.args.length:=by
 unfold instB at h
 simp only [Bool.and_eq_true,decide_eq_true_eq] at h
 cases ho:declT p x.name with
 | none=>have:=(kind_none ho).1;omega
 | some d =>
  obtain⟨h1,h2⟩:=kind_some ho
  exact⟨d,rfl,by omega,by rw [← h2];exact h.2⟩
theorem ok_TSpecs (p:Prog)(h:p.Sm)(x:Ty)(hx:x.Sm):CallB Tryz.prog 78 [.dptr (tabC p) 0,tyV x] [] (.tuple [.acc 8,boolV (instB p x 2)]) [(8,.rows 7 (siR (specsT p x)))]:=by
 have hin:=ok_instance p h x 2 (by decide)
 unfold specsT
 rcases Bool.eq_false_or_eq_true (instB p x 2) with hi | hi
 ·obtain⟨dd,hdd,_⟩:=inst_decl (by decide) hi
  rw [hi] at hin
  rw [if_pos hi,hi]
  rw [hdd,Option.getD_some] at hin ⊢
  have hddm:=h.decls.2 dd (declT_mem hdd)
  have hsl:=hddm.sigs.1
  unfold specsD
  (refine CallB.of_body Tryz.func78 rfl (by decide) (by rw [Tryz.ntmps78];simp) ?_;rw [Tryz.ntmps78])
  (refine AWp.seqR [0,1,3,4,5,6,7,8,9,11,19,20,22,23,24,25,32] [] (by decide +kernel) fun K hK=>?_;simp -implicitDefEqProofs only [EV,Nat.reduceAdd,Nat.reduceEqDiff,Nat.reduceLeDiff,reduceCtorEq,];refine hK _ _ ?_;clear hK K)
  (refine AWp.seqR [0,1,3,4,5,6,7,8,9,11,19,20,22,23,24,25,32] [] (by decide +kernel) fun K hK=>?_;simp -implicitDefEqProofs only [EV,Nat.reduceAdd,Nat.reduceEqDiff,reduceCtorEq,TF25,];refine⟨_,.inl ⟨_,rfl,hin,rfl⟩,?_⟩;(try simp -implicitDefEqProofs only [EV,Nat.reduceAdd,Nat.reduceEqDiff,Nat.reduceBEq,Nat.reduceLeDiff,reduceCtorEq,TF80,]);refine hK _ _ ?_;clear hK K)
  refine AWp.seqK fun K1 hK1=>?_
  (refine AWp.seqR [0,1,3,4,5,6,7,8,9,11,19,20,22,23,24,25,32] [] (by decide +kernel) fun K hK=>?_;simp -implicitDefEqProofs only [EV,Nat.reduceEqDiff,reduceCtorEq,];refine hK _ _ ?_;clear hK K)
  refine AWp.skipIfK rfl hK1 ?_
  clear hK1 K1
  (refine AWp.seqR [0,1,3,4,5,6,7,8,9,11,19,20,22,23,24,25,32] [] (by decide +kernel) fun K hK=>?_;simp -implicitDefEqProofs only [EV,Nat.reduceEqDiff,reduceCtorEq,];refine hK _ _ ?_;clear hK K)
  refine AWp.promote 8 7 8 rfl ?_
  (refine AWp.seqR [0,1,3,4,5,6,7,8,9,11,19,20,22,23,24,25,32] [] (by decide +kernel) fun K hK=>?_;simp -implicitDefEqProofs only [EV,Nat.reduceEqDiff,Nat.reduceBEq,Nat.reduceLeDiff,reduceCtorEq,];refine hK _ _ ?_;clear hK K)
  refine AWp.seqK fun K1 hK1=>?_
  (refine AWp.seqR [0,1,3,4,5,6,7,8,9,11,19,20,22,23,24,25,32] [] (by decide +kernel) fun K hK=>?_;simp -implicitDefEqProofs only [EV,Nat.reduceEqDiff,reduceCtorEq,TF75,TF80,];refine hK _ _ ?_;clear hK K)
  refine AWp.block (AWp.forIdx dd.sigs (X:=Unit) (fun j _=>[(3,.box 3 0),(6,.box 6 0),(8,.acc 8),(9,.mp 20),(22,.d (.slice (siR dd.sigs))),(23,intV dd.sigs.length),(24,intV j)])
   (fun j _=>[(3,.cells ((tyC x).map .d)),(6,.cells ((deC dd).map .d)),(8,.rows 7 (siR (specL (fnames dd.formals) x.args dd.sigs j))),(20,.map (nmD (seenN (dd.sigs.take j))))])
   (fun j _=>True) () trivial (by simp [sle,vle,sget]) (by simp [ble,bget,specL,siR,deC,tyC,nmD,seenN]) ?_ ?_)
  ·intro _ _
   (refine AWp.seqR [0,1,3,4,5,6,7,8,9,11,19,20,22,23,24,25,32] [] (by decide +kernel) fun K hK=>?_;simp -implicitDefEqProofs only [EV,Nat.reduceEqDiff,reduceCtorEq,Int.lt_irrefl];refine hK _ _ ?_;clear hK K)
   refine AWp.stop rfl ?_
   simp only [thenA,blockA,if_true]
   refine hK1 _ _ ?_
   (refine AWp.seqR [0,1,3,4,5,6,7,8,9,11,19,20,22,23,24,25,32] [] (by decide +kernel) fun K hK=>?_;simp -implicitDefEqProofs only [EV,Nat.reduceEqDiff,reduceCtorEq,];refine hK _ _ ?_;clear hK K)
   exact AWp.ret ⟨_,by rw [Tryz.results78];rfl,.inl rfl,by simp [ble,bget]⟩
  ·intro j _ d hd hmem hdrop htake hlt hI
   have hlen:=specL_len (fnames dd.formals) x.args dd.sigs j
   have hsucc:=specL_succ (vars:=fnames dd.formals) (args:=x.args) (by omega) htake
   have hdm:=hddm.sigs.2 d hmem
   have hseen:seenN (dd.sigs.take (j+1))=addN (seenN (dd.sigs.take j)) d.name:=by rw [htake,seenN_append]
   have hk:KeyAt Tryz.prog 9 (.str d.name):=keyS _ (Nat.le_trans hdm.name (by decide))
   have hks:∀ kv,kv∈nmD (seenN (dd.sigs.take j))→KeyAt Tryz.prog 9 kv.1:=nmD_keys fun s hs=>by
    obtain⟨y,hy,rfl⟩:=(mem_seenN _ _).1 hs
    exact Nat.le_trans (hddm.sigs.2 y (List.mem_of_mem_take hy)).name (by decide)
   have hnew:newB dd.sigs d j = !decide (d.name∈seenN (dd.sigs.take j)):=by
    unfold newB
    rw [Bool.eq_iff_iff]
    simp [mem_seenN]
   (refine AWp.seqR [0,1,3,4,5,6,7,8,9,11,19,20,22,23,24,25,32] [] (by decide +kernel) fun K hK=>?_;simp -implicitDefEqProofs only [EV,Nat.reduceEqDiff,reduceCtorEq,hlt];refine hK _ _ ?_;clear hK K)
   refine AWp.goOn rfl ?_
   refine AWp.seqK fun K2 hK2=>?_
   refine AWp.block ?_
   (refine AWp.seqR [0,1,3,4,5,6,7,8,9,11,19,20,22,23,24,25,32] [] (by decide +kernel) fun K hK=>?_;simp -implicitDefEqProofs only [EV,Nat.reduceEqDiff,reduceCtorEq,TF75,TF78,];refine⟨by omega,_,siR_get hd,rfl,?_⟩;(try simp -implicitDefEqProofs only [EV,Nat.reduceAdd,Nat.reduceEqDiff,Nat.reduceBEq,Nat.reduceLeDiff,reduceCtorEq,TF78,]);refine hK _ _ ?_;clear hK K)
   refine AWp.seqK fun K3 hK3=>?_
   (refine AWp.seqR [0,1,3,4,5,6,7,8,9,11,19,20,22,23,24,25,32] [] (by decide +kernel) fun K hK=>?_;simp -implicitDefEqProofs only [EV,Nat.reduceEqDiff,reduceCtorEq,TF9,TF78,TF171,look_nmD];refine⟨hks,hk,?_⟩;(try simp -implicitDefEqProofs only [EV,forall_const,implies_true,Nat.reduceAdd,Nat.reduceEqDiff,Nat.reduceBEq,Nat.reduceLeDiff,Nat.reduceSub,Nat.reduceMul,Int.reduceEq,Int.reduceLT,Int.reduceLE,Int.reduceSub,Int.reduceAdd,Int.reduceToNat,reduceCtorEq,Int.reduceNeg,TF3,TF4,TF9,TF23,TF25,TF46,TF75,TF78,TF80,TF84,TF171,look_nmD]);refine hK _ _ ?_;clear hK K)
   have fin:∀ sl bx,sget sl 3=.box 3 0→sget sl 6=.box 6 0→sget sl 8=.acc 8→sget sl 9=.mp 20→sget sl 11=.box 11 0→sget sl 22=.d (.slice (siR dd.sigs))→sget sl 23=intV dd.sigs.length→sget sl 24=intV j →
     bget bx 3=some (.cells ((tyC x).map .d))→bget bx 6=some (.cells ((deC dd).map .d))→bget bx 8=some (.rows 7 (siR (specL (fnames dd.formals) x.args dd.sigs (j+1))))→bget bx 11=some (.cells (siL d))→bget bx 20=some (.map (nmD (seenN (dd.sigs.take j))))→K3 sl bx:=fun sl bx g1 g2 g3 g4 g5 g6 g7 g8 g9 g10 g11 g12 g13=>by
    refine hK3 _ _ ?_
    refine AWp.weaken (sl':=[(3,.box 3 0),(6,.box 6 0),(8,.acc 8),(9,.mp 20),(11,.box 11 0),(22,.d (.slice (siR dd.sigs))),(23,intV dd.sigs.length),(24,intV j)])
     (bx':=[(3,.cells ((tyC x).map .d)),(6,.cells ((deC dd).map .d)),(8,.rows 7 (siR (specL (fnames dd.formals) x.args dd.sigs (j+1)))),(11,.cells (siL d)),(20,.map (nmD (seenN (dd.sigs.take j))))]) (by simp [sle,vle,g1,g2,g3,g4,g5,g6,g7,g8]) (by simp [ble,g9,g10,g11,g12,g13]) ?_
    (refine AWp.lastR [0,1,3,4,5,6,7,8,9,11,19,20,22,23,24,25,32] [] (by decide +kernel) fun K hK=>?_;simp -implicitDefEqProofs only [EV,Nat.reduceEqDiff,reduceCtorEq,TF9,TF78,TF171,kput_nmD];refine⟨hks,hk,?_⟩;(try simp -implicitDefEqProofs only [EV,forall_const,implies_true,Nat.reduceAdd,Nat.reduceEqDiff,Nat.reduceBEq,Nat.reduceLeDiff,Nat.reduceSub,Nat.reduceMul,Int.reduceEq,Int.reduceLT,Int.reduceLE,Int.reduceSub,Int.reduceAdd,Int.reduceToNat,reduceCtorEq,Int.reduceNeg,TF3,TF4,TF9,TF23,TF25,TF46,TF75,TF78,TF80,TF84,TF171,kput_nmD]);refine hK _ _ ?_;clear hK K;try simp only [thenA,blockA])
    refine hK2 _ _ ?_
    (refine AWp.lastR [0,1,3,4,5,6,7,8,9,11,19,20,22,23,24,25,32] [] (by decide +kernel) fun K hK=>?_;simp -implicitDefEqProofs only [EV,Nat.reduceEqDiff,reduceCtorEq,];refine⟨by first | (unfold InR;omega) | (simp only [InR,sm] at *;omega),?_⟩;(try simp -implicitDefEqProofs only [EV,forall_const,implies_true,Nat.reduceAdd,Nat.reduceEqDiff,Nat.reduceBEq,Nat.reduceLeDiff,Nat.reduceSub,Nat.reduceMul,Int.reduceEq,Int.reduceLT,Int.reduceLE,Int.reduceSub,Int.reduceAdd,Int.reduceToNat,reduceCtorEq,Int.reduceNeg,TF3,TF4,TF9,TF23,TF25,TF46,TF75,TF78,TF80,TF84,TF171]);refine hK _ _ ?_;clear hK K;try simp only [thenA,])
    exact⟨(),trivial,(by simp [sle,vle,sget]),by simp [ble,bget,hseen,tyC,deC]⟩
   by_cases hin:d.name∈seenN (dd.sigs.take j)
   ·rw [decide_eq_true hin]
    refine AWp.condF rfl (AWp.skip (fin _ _ rfl rfl rfl rfl rfl rfl rfl rfl rfl rfl (by rw [hsucc,hnew,decide_eq_true hin];simp [bget]) rfl rfl))
   ·rw [decide_eq_false hin]
    refine AWp.condT rfl ?_
    have hn:newB dd.sigs d j=true:=by rw [hnew,decide_eq_false hin];rfl
    rw [hn,if_pos rfl] at hsucc
    (refine AWp.lastD [0,1,3,4,5,6,7,8,9,11,19,20,22,23,24,25,32] [] 10 mixed (by decide +kernel) (by decide +kernel) fun K hK=>?_;simp -implicitDefEqProofs only [EV,Nat.reduceAdd,Nat.reduceEqDiff,Nat.reduceBEq,Nat.reduceLeDiff,reduceCtorEq,TF23,TF25,TF46,TF75,TF78,TF80,];refine⟨_,.inl ⟨_,rfl,ok_BCanon d hdm,rfl⟩,?_⟩;(try simp -implicitDefEqProofs only [EV,]);refine⟨_,.inl ⟨_,rfl,ok_Names dd.formals hddm.formals.1,rfl⟩,?_⟩;(try simp -implicitDefEqProofs only [EV,]);refine⟨_,.inl ⟨_,rfl,ok_BSubst (fnames dd.formals) x.args hx.arg _ hdm.canon,rfl⟩,?_⟩;(try simp -implicitDefEqProofs only [EV,Nat.reduceAdd,Nat.reduceLeDiff,Nat.reduceMul,]);refine⟨by simp,by unfold lim sm at *;omega,?_⟩;(try simp -implicitDefEqProofs only [EV,forall_const,implies_true,Nat.reduceAdd,Nat.reduceEqDiff,Nat.reduceBEq,Nat.reduceLeDiff,Nat.reduceSub,Nat.reduceMul,Int.reduceEq,Int.reduceLT,Int.reduceLE,Int.reduceSub,Int.reduceAdd,Int.reduceToNat,reduceCtorEq,Int.reduceNeg,TF3,TF4,TF9,TF23,TF25,TF46,TF75,TF78,TF80,TF84,TF171]);refine hK _ _ ?_;clear hK K;try simp only [thenA,])
    exact fin _ _ rfl rfl rfl rfl rfl rfl rfl rfl rfl rfl (by rw [hsucc];simp [bget,siR,siC]) rfl rfl
 ·rw [hi] at hin
  rw [if_neg (by rw [hi];decide),hi]
  (refine CallB.of_body Tryz.func78 rfl (by decide) (by rw [Tryz.ntmps78];simp) ?_;rw [Tryz.ntmps78])
  (refine AWp.seqR [0,1,3,4,5,6,7,8,9,11,19,20,22,23,24,25,32] [] (by decide +kernel) fun K hK=>?_;simp -implicitDefEqProofs only [EV,Nat.reduceAdd,Nat.reduceEqDiff,Nat.reduceLeDiff,reduceCtorEq,];refine hK _ _ ?_;clear hK K)
  (refine AWp.seqR [0,1,3,4,5,6,7,8,9,11,19,20,22,23,24,25,32] [] (by decide +kernel) fun K hK=>?_;simp -implicitDefEqProofs only [EV,Nat.reduceAdd,Nat.reduceEqDiff,reduceCtorEq,TF25,];refine⟨_,.inl ⟨_,rfl,hin,rfl⟩,?_⟩;(try simp -implicitDefEqProofs only [EV,Nat.reduceAdd,Nat.reduceEqDiff,Nat.reduceBEq,Nat.reduceLeDiff,reduceCtorEq,TF80,]);refine hK _ _ ?_;clear hK K)
  refine AWp.seqK fun K1 hK1=>?_
  (refine AWp.seqR [0,1,3,4,5,6,7,8,9,11,19,20,22,23,24,25,32] [] (by decide +kernel) fun K hK=>?_;simp -implicitDefEqProofs only [EV,Nat.reduceEqDiff,reduceCtorEq,];refine hK _ _ ?_;clear hK K)
  refine AWp.takeIfK rfl ?_
  (refine AWp.seqR [0,1,3,4,5,6,7,8,9,11,19,20,22,23,24,25,32] [] (by decide +kernel) fun K hK=>?_;simp -implicitDefEqProofs only [EV,Nat.reduceEqDiff,reduceCtorEq,];refine hK _ _ ?_;clear hK K)
  refine AWp.promote 8 7 4 rfl ?_
  exact AWp.ret ⟨_,by rw [Tryz.results78];rfl,.inl rfl,by simp [ble,bget,siR]⟩
theorem ok_RSpecs (p:Prog)(h:p.Sm)(x:Ty)(hx:x.Sm)(hi:instB p x 2=true):CallB Tryz.prog 127 [prV p,tyV x] [] (.acc 6) [(6,.rows 7 (siR (specsT p x)))]:=by
 unfold specsT
 rw [if_pos hi]
 obtain⟨dd,hdd,_⟩:=inst_decl (by decide) hi
 rw [hdd,Option.getD_some]
 have hddm:=h.decls.2 dd (declT_mem hdd)
 have hsl:=hddm.sigs.1
 have hfi:=ok_Find p x.name
 obtain⟨k,hkd,hk2⟩:∃ k:Nat,p.decls[k]? = some dd∧findD x.name p.decls 0=k:=by
  rcases findD_find x.name p.decls 0 with ⟨h1,h2⟩ | ⟨k,d,h1,h2,h3⟩
  ·unfold declT at hdd;rw [h2] at hdd;simp at hdd
  ·unfold declT at hdd;rw [h3] at hdd;simp only [Option.some.injEq] at hdd;subst hdd
   exact⟨k,h1,by rw [h2];simp⟩
 rw [hk2] at hfi
 unfold specsD
 (refine CallB.of_body Tryz.func127 rfl (by decide) (by rw [Tryz.ntmps127];simp) ?_;rw [Tryz.ntmps127])
 (refine AWp.seqR [0,1,2,3,4,5,6,7,8,9,22,27,42,43] [] (by decide +kernel) fun K hK=>?_;simp -implicitDefEqProofs only [EV,Nat.reduceAdd,Nat.reduceEqDiff,Nat.reduceBEq,Nat.reduceLeDiff,reduceCtorEq,];refine hK _ _ ?_;clear hK K)
 (refine AWp.seqDL [0,1,2,3,4,5,6,7,8,9,22,27,42,43] [] 9 8 5 80 _ mixed (by decide +kernel) (by decide +kernel) ⟨by decide,⟨_,rfl,rfl,rfl,rfl⟩,by decide,(by first | exact TF80.2.2.1 | simp only [TF80])⟩ fun K hK=>?_;simp -implicitDefEqProofs only [EV,Nat.reduceAdd,Nat.reduceEqDiff,reduceCtorEq,TF9,TF22,TF25,TF30,TF80];refine⟨_,.inl ⟨_,rfl,hfi,rfl⟩,?_⟩;(try simp -implicitDefEqProofs only [EV,Nat.reduceEqDiff,reduceCtorEq,TF80]);refine⟨by omega,_,deR_get hkd,rfl,?_⟩;(try simp -implicitDefEqProofs only [EV,Nat.reduceAdd,Nat.reduceEqDiff,Nat.reduceBEq,reduceCtorEq,TF80]);refine hK _ _ ?_;clear hK K)
 (refine AWp.seqR [0,1,2,3,4,5,6,7,8,9,22,27,42,43] [] (by decide +kernel) fun K hK=>?_;simp -implicitDefEqProofs only [EV,Nat.reduceEqDiff,reduceCtorEq,];refine hK _ _ ?_;clear hK K)
 refine AWp.promote 6 7 6 rfl ?_
 refine AWp.seqK fun K1 hK1=>?_
 (refine AWp.seqR [0,1,2,3,4,5,6,7,8,9,22,27,42,43] [] (by decide +kernel) fun K hK=>?_;simp -implicitDefEqProofs only [EV,Nat.reduceEqDiff,Nat.reduceBEq,reduceCtorEq,];refine hK _ _ ?_;clear hK K)
 refine AWp.block (AWp.forIdx dd.sigs (X:=Unit) (fun j _=>[(3,.box 3 0),(5,.box 5 0),(6,.acc 6),(7,intV j)])
  (fun j _=>[(3,.cells ((tyC x).map .d)),(5,.cells ((deC dd).map .d)),(6,.rows 7 (siR (specL (fnames dd.formals) x.args dd.sigs j)))])
  (fun j _=>True) () trivial (by simp [sle,vle,sget]) (by simp [ble,bget,specL,siR,deC,tyC]) ?_ ?_)
 ·intro _ _
  refine AWp.seqK fun K2 hK2=>?_
  (refine AWp.seqR [0,1,2,3,4,5,6,7,8,9,22,27,42,43] [] (by decide +kernel) fun K hK=>?_;simp -implicitDefEqProofs only [EV,Nat.reduceEqDiff,reduceCtorEq,TF75,TF80,Int.lt_irrefl];refine hK _ _ ?_;clear hK K)
  refine AWp.stopK rfl ?_
  simp only [thenA,blockA,if_true]
  refine hK1 _ _ ?_
  (refine AWp.seqR [0,1,2,3,4,5,6,7,8,9,22,27,42,43] [] (by decide +kernel) fun K hK=>?_;simp -implicitDefEqProofs only [EV,Nat.reduceEqDiff,reduceCtorEq,];refine hK _ _ ?_;clear hK K)
  exact AWp.ret ⟨_,by rw [Tryz.results127];rfl,.inl rfl,by simp [ble,bget]⟩
 ·intro j _ d hd hmem hdrop htake hlt hI
  have hlen:=specL_len (fnames dd.formals) x.args dd.sigs j
  have hsucc:=specL_succ (vars:=fnames dd.formals) (args:=x.args) (by omega) htake
  have hdm:=hddm.sigs.2 d hmem
  have hjl:(dd.sigs.take j).length=j:=by rw [List.length_take];omega
  refine AWp.seqK fun K2 hK2=>?_
  (refine AWp.seqR [0,1,2,3,4,5,6,7,8,9,22,27,42,43] [] (by decide +kernel) fun K hK=>?_;simp -implicitDefEqProofs only [EV,Nat.reduceEqDiff,reduceCtorEq,TF75,TF80,hlt];refine hK _ _ ?_;clear hK K)
  refine AWp.goOnK rfl hK2 ?_
  clear hK2 K2
  refine AWp.seqK fun K2 hK2=>?_
  refine AWp.block ?_
  (refine AWp.seqR [0,1,2,3,4,5,6,7,8,9,22,27,42,43] [] (by decide +kernel) fun K hK=>?_;simp -implicitDefEqProofs only [EV,Nat.reduceEqDiff,reduceCtorEq,];refine hK _ _ ?_;clear hK K)
  refine AWp.seqK fun K3 hK3=>?_
  (refine AWp.seqR [0,1,2,3,4,5,6,7,8,9,22,27,42,43] [] (by decide +kernel) fun K hK=>?_;simp -implicitDefEqProofs only [EV,Nat.reduceEqDiff,reduceCtorEq,];refine hK _ _ ?_;clear hK K)
  refine AWp.block (AWp.forIdx (dd.sigs.take j) (X:=Unit) (fun i _=>[(3,.box 3 0),(5,.box 5 0),(6,.acc 6),(7,intV j),(8,boolV (newB (dd.sigs.take j) d i)),(9,intV i)])
   (fun _ _=>[(3,.cells ((tyC x).map .d)),(5,.cells ((deC dd).map .d)),(6,.rows 7 (siR (specL (fnames dd.formals) x.args dd.sigs j)))])
   (fun _ _=>True) () trivial (by simp [sle,vle,sget,newB]) (by simp [ble,bget,deC,tyC]) ?_ ?_)
  ·intro _ _
   have hnb:newB (dd.sigs.take j) d (dd.sigs.take j).length=newB dd.sigs d j:=by unfold newB;rw [List.take_length]
   rw [hnb,hjl]
   refine AWp.seqK fun K4 hK4=>?_
   (refine AWp.seqR [0,1,2,3,4,5,6,7,8,9,22,27,42,43] [] (by decide +kernel) fun K hK=>?_;simp -implicitDefEqProofs only [EV,Nat.reduceEqDiff,reduceCtorEq,Int.lt_irrefl];refine hK _ _ ?_;clear hK K)
   refine AWp.stopK rfl ?_
   simp only [thenA,blockA,if_true]
   refine hK3 _ _ ?_
   clear hK4 K4 hK3 K3
   (refine AWp.seqR [0,1,2,3,4,5,6,7,8,9,22,27,42,43] [] (by decide +kernel) fun K hK=>?_;simp -implicitDefEqProofs only [EV,Nat.reduceEqDiff,reduceCtorEq,];refine hK _ _ ?_;clear hK K)
   rcases Bool.eq_false_or_eq_true (newB dd.sigs d j) with hn | hn
   ·rw [hn,if_pos rfl] at hsucc
    rw [hn]
    refine AWp.condT rfl ?_
    (refine AWp.lastD [0,1,2,3,4,5,6,7,8,9,22,27,42,43] [] 14 mixed (by decide +kernel) (by decide +kernel) fun K hK=>?_;simp -implicitDefEqProofs only [EV,Nat.reduceEqDiff,reduceCtorEq,TF75,TF78,TF80];refine⟨by omega,_,siR_get hd,rfl,?_⟩;(try simp -implicitDefEqProofs only [EV,Nat.reduceAdd,Nat.reduceEqDiff,Nat.reduceBEq,Nat.reduceLeDiff,reduceCtorEq,TF23,TF25,TF46,TF75,TF78,TF80]);refine⟨_,.inl ⟨_,rfl,ok_RCanon d hdm,rfl⟩,?_⟩;(try simp -implicitDefEqProofs only [EV,]);refine⟨_,.inl ⟨_,rfl,ok_RefNames dd.formals hddm.formals.1,rfl⟩,?_⟩;(try simp -implicitDefEqProofs only [EV,]);refine⟨_,.inl ⟨_,rfl,ok_RefSubst (fnames dd.formals) x.args hx.arg _ hdm.canon,rfl⟩,?_⟩;(try simp -implicitDefEqProofs only [EV,Nat.reduceAdd,Nat.reduceLeDiff,Nat.reduceMul,]);refine⟨by simp,by unfold lim sm at *;omega,?_⟩;(try simp -implicitDefEqProofs only [EV,forall_const,implies_true,Nat.reduceAdd,Nat.reduceEqDiff,Nat.reduceBEq,Nat.reduceLeDiff,Nat.reduceSub,Nat.reduceMul,Int.reduceEq,Int.reduceLT,Int.reduceLE,Int.reduceSub,Int.reduceAdd,Int.reduceToNat,reduceCtorEq,Int.reduceNeg,TF3,TF4,TF9,TF22,TF23,TF25,TF30,TF46,TF75,TF78,TF80,TF84]);refine hK _ _ ?_;clear hK K;try simp only [thenA,blockA])
    refine hK2 _ _ ?_
    clear hK2 K2
    (refine AWp.lastR [0,1,2,3,4,5,6,7,8,9,22,27,42,43] [] (by decide +kernel) fun K hK=>?_;simp -implicitDefEqProofs only [EV,Nat.reduceEqDiff,reduceCtorEq,];refine⟨by first | (unfold InR;omega) | (simp only [InR,sm] at *;omega),?_⟩;(try simp -implicitDefEqProofs only [EV,forall_const,implies_true,Nat.reduceAdd,Nat.reduceEqDiff,Nat.reduceBEq,Nat.reduceLeDiff,Nat.reduceSub,Nat.reduceMul,Int.reduceEq,Int.reduceLT,Int.reduceLE,Int.reduceSub,Int.reduceAdd,Int.reduceToNat,reduceCtorEq,Int.reduceNeg,TF3,TF4,TF9,TF22,TF23,TF25,TF30,TF46,TF75,TF78,TF80,TF84]);refine hK _ _ ?_;clear hK K;try simp only [thenA,])
    exact⟨(),trivial,(by simp [sle,vle,sget]),by simp [ble,bget,hsucc,siR,siC,deC,tyC]⟩
   ·rw [hn,if_neg (by decide),List.append_nil] at hsucc
    rw [hn]
    refine AWp.condF rfl (AWp.skip (hK2 _ _ ?_))
    clear hK2 K2
    (refine AWp.lastR [0,1,2,3,4,5,6,7,8,9,22,27,42,43] [] (by decide +kernel) fun K hK=>?_;simp -implicitDefEqProofs only [EV,Nat.reduceEqDiff,reduceCtorEq,];refine⟨by first | (unfold InR;omega) | (simp only [InR,sm] at *;omega),?_⟩;(try simp -implicitDefEqProofs only [EV,forall_const,implies_true,Nat.reduceAdd,Nat.reduceEqDiff,Nat.reduceBEq,Nat.reduceLeDiff,Nat.reduceSub,Nat.reduceMul,Int.reduceEq,Int.reduceLT,Int.reduceLE,Int.reduceSub,Int.reduceAdd,Int.reduceToNat,reduceCtorEq,Int.reduceNeg,TF3,TF4,TF9,TF22,TF23,TF25,TF30,TF46,TF75,TF78,TF80,TF84]);refine hK _ _ ?_;clear hK K;try simp only [thenA,])
    exact⟨(),trivial,(by simp [sle,vle,sget]),by simp [ble,bget,hsucc,deC,tyC]⟩
  ·intro i _ e he hem hed het hil hI2
   rw [hjl] at hil
   have hes:dd.sigs[i]? = some e:=by rw [List.getElem?_take_of_lt (by omega)] at he;exact he
   have hnb:newB (dd.sigs.take j) d (i+1)=(newB (dd.sigs.take j) d i && !decide (e.name=d.name)):=by
    unfold newB
    rw [het,Bool.eq_iff_iff]
    simp only [decide_eq_true_eq,List.mem_append,List.mem_cons,List.not_mem_nil,or_false,Bool.and_eq_true,Bool.not_eq_true',decide_eq_false_iff_not]
    exact⟨fun h=>⟨fun y hy=>h y (.inl hy),h e (.inr rfl)⟩,fun h y hy=>hy.elim (h.1 y) (fun he=>he ▸ h.2)⟩
   refine AWp.seqK fun K4 hK4=>?_
   (refine AWp.seqR [0,1,2,3,4,5,6,7,8,9,22,27,42,43] [] (by decide +kernel) fun K hK=>?_;simp -implicitDefEqProofs only [EV,Nat.reduceEqDiff,reduceCtorEq,hil];refine hK _ _ ?_;clear hK K)
   refine AWp.goOnK rfl hK4 ?_
   clear hK4 K4
   refine AWp.seqK fun K4 hK4=>?_
   refine AWp.block ?_
   by_cases hn:e.name=d.name
   ·rw [decide_eq_true hn,Bool.not_true,Bool.and_false] at hnb
    (refine AWp.seqD [0,1,2,3,4,5,6,7,8,9,22,27,42,43] [] 13 mixed (by decide +kernel) (by decide +kernel) fun K hK=>?_;simp -implicitDefEqProofs only [EV,Nat.reduceEqDiff,reduceCtorEq,TF9,TF75,TF78,TF80,];refine⟨by omega,_,siR_get hes,rfl,?_⟩;(try simp -implicitDefEqProofs only [EV,Nat.reduceEqDiff,reduceCtorEq,TF9,TF75,TF78,TF80,hn]);refine⟨by omega,_,siR_get hd,rfl,?_⟩;(try simp -implicitDefEqProofs only [EV,Nat.reduceEqDiff,reduceCtorEq,]);refine hK _ _ ?_;clear hK K)
    refine AWp.condT rfl ?_
    (refine AWp.lastR [0,1,2,3,4,5,6,7,8,9,22,27,42,43] [] (by decide +kernel) fun K hK=>?_;simp -implicitDefEqProofs only [EV,Nat.reduceEqDiff,reduceCtorEq,];refine hK _ _ ?_;clear hK K;try simp only [thenA,blockA])
    refine hK4 _ _ ?_
    clear hK4 K4
    (refine AWp.lastR [0,1,2,3,4,5,6,7,8,9,22,27,42,43] [] (by decide +kernel) fun K hK=>?_;simp -implicitDefEqProofs only [EV,Nat.reduceEqDiff,reduceCtorEq,];refine⟨by first | (unfold InR;omega) | (simp only [InR,sm] at *;omega),?_⟩;(try simp -implicitDefEqProofs only [EV,forall_const,implies_true,Nat.reduceAdd,Nat.reduceEqDiff,Nat.reduceBEq,Nat.reduceLeDiff,Nat.reduceSub,Nat.reduceMul,Int.reduceEq,Int.reduceLT,Int.reduceLE,Int.reduceSub,Int.reduceAdd,Int.reduceToNat,reduceCtorEq,Int.reduceNeg,TF3,TF4,TF9,TF22,TF23,TF25,TF30,TF46,TF75,TF78,TF80,TF84]);refine hK _ _ ?_;clear hK K;try simp only [thenA,])
    exact⟨(),trivial,(by simp [sle,vle,sget,hnb]),by simp [ble,bget,deC,tyC]⟩
   ·rw [decide_eq_false hn,Bool.not_false,Bool.and_true] at hnb
    (refine AWp.seqD [0,1,2,3,4,5,6,7,8,9,22,27,42,43] [] 13 mixed (by decide +kernel) (by decide +kernel) fun K hK=>?_;simp -implicitDefEqProofs only [EV,Nat.reduceEqDiff,reduceCtorEq,TF9,TF75,TF78,TF80,];refine⟨by omega,_,siR_get hes,rfl,?_⟩;(try simp -implicitDefEqProofs only [EV,Nat.reduceEqDiff,reduceCtorEq,TF9,TF75,TF78,TF80,]);refine⟨by omega,_,siR_get hd,rfl,?_⟩;(try simp -implicitDefEqProofs only [EV,Nat.reduceEqDiff,reduceCtorEq,hn]);refine hK _ _ ?_;clear hK K)
    refine AWp.condF rfl (AWp.skip (hK4 _ _ ?_))
    clear hK4 K4
    (refine AWp.lastR [0,1,2,3,4,5,6,7,8,9,22,27,42,43] [] (by decide +kernel) fun K hK=>?_;simp -implicitDefEqProofs only [EV,Nat.reduceEqDiff,reduceCtorEq,];refine⟨by first | (unfold InR;omega) | (simp only [InR,sm] at *;omega),?_⟩;(try simp -implicitDefEqProofs only [EV,forall_const,implies_true,Nat.reduceAdd,Nat.reduceEqDiff,Nat.reduceBEq,Nat.reduceLeDiff,Nat.reduceSub,Nat.reduceMul,Int.reduceEq,Int.reduceLT,Int.reduceLE,Int.reduceSub,Int.reduceAdd,Int.reduceToNat,reduceCtorEq,Int.reduceNeg,TF3,TF4,TF9,TF22,TF23,TF25,TF30,TF46,TF75,TF78,TF80,TF84]);refine hK _ _ ?_;clear hK K;try simp only [thenA,])
    exact⟨(),trivial,(by simp [sle,vle,sget,hnb]),by simp [ble,bget,deC,tyC]⟩
end Go.Abs
