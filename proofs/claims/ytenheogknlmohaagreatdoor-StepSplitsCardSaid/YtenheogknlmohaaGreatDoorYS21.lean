/- method.Set -/
import Derived.Test.YtenheogknlmohaaGreatDoorYS20
import Derived.Test.YtenheogknlmohaaGreatDoorYSA
namespace Go.Abs
set_option linter.unusedSimpArgs false
set_option linter.unusedVariables false
open Go Go.Proofs
set_option maxRecDepth 100000
set_option maxHeartbeats 1000000
theorem canon_name (s:Sig)(vars:List Str)(args:List Ty):(s.canon.subst vars args).name=s.name:=rfl
theorem specL_names (vars:List Str)(args:List Ty)(l:List Sig):∀ j,j≤l.length→((specL vars args l j).map (·.name)).Nodup∧∀ n,n∈(specL vars args l j).map (·.name)→∃ y,y∈l.take j∧y.name=n
 | 0,_=>by simp [specL]
 | j+1,h=>by
  obtain⟨h1,h2⟩:=specL_names vars args l j (by omega)
  have ht:l.take (j+1)=l.take j++[l[j]]:=by rw [List.take_add_one,List.getElem?_eq_getElem (by omega)];rfl
  rw [specL_succ (by omega) ht,ht]
  split
  ·rename_i hn
   simp only [newB,decide_eq_true_eq] at hn
   rw [List.map_append,List.nodup_append]
   refine⟨⟨h1,by simp,?_⟩,?_⟩
   ·rintro a ha b hb rfl
    simp only [List.map_cons,List.map_nil,List.mem_cons,List.not_mem_nil,or_false] at hb
    obtain⟨y,hy,he⟩:=h2 a ha
    exact hn y hy (he.trans hb)
   ·intro n hm
    rcases List.mem_append.1 hm with hm | hm
    ·obtain⟨y,hy,he⟩:=h2 n hm
     exact⟨y,List.mem_append.2 (.inl hy),he⟩
    ·simp only [List.map_cons,List.map_nil,List.mem_cons,List.not_mem_nil,or_false] at hm
     exact⟨l[j],List.mem_append.2 (.inr (by simp)),hm.symm⟩
  ·rw [List.append_nil]
   exact⟨h1,fun n hm=>by obtain⟨y,hy,he⟩:=h2 n hm;exact⟨y,List.mem_append.2 (.inl hy),he⟩⟩
theorem methL_names (p:Prog)(x:Ty):∀ j,j≤p.decls.length→((methL p x j).map (·.name)).Nodup∧∀ n,n∈(methL p x j).map (·.name)→∃ i,i < j∧methP p x n=(i:Nat)
 | 0,_=>by simp [methL]
 | j+1,h=>by
  obtain⟨h1,h2⟩:=methL_names p x j (by omega)
  have ht:p.decls.take (j+1)=p.decls.take j++[p.decls[j]]:=by rw [List.take_add_one,List.getElem?_eq_getElem (by omega)];rfl
  rw [methL_succ (by omega) ht]
  split
  ·rename_i hn
   simp only [methB,Bool.and_eq_true,decide_eq_true_eq] at hn
   rw [List.map_append,List.nodup_append]
   refine⟨⟨h1,by simp,?_⟩,?_⟩
   ·rintro a ha b hb rfl
    simp only [List.map_cons,List.map_nil,List.mem_cons,List.not_mem_nil,or_false] at hb
    obtain⟨i,hi,he⟩:=h2 a ha
    rw [hb,canon_name,hn.2] at he
    omega
   ·intro n hm
    rcases List.mem_append.1 hm with hm | hm
    ·obtain⟨i,hi,he⟩:=h2 n hm
     exact⟨i,by omega,he⟩
    ·simp only [List.map_cons,List.map_nil,List.mem_cons,List.not_mem_nil,or_false] at hm
     exact⟨j,by omega,by rw [hm,canon_name];exact hn.2⟩
  ·rw [List.append_nil]
   exact⟨h1,fun n hm=>by obtain⟨i,hi,he⟩:=h2 n hm;exact⟨i,by omega,he⟩⟩
def setU (p:Prog)(env:List Formal)(x:Ty):List Sig:=if instB p ((boundV env x).getD x) 2=true then specsT p ((boundV env x).getD x) else if (boundV env x).isSome=true then [] else methL p ((boundV env x).getD x) p.decls.length
def setT (p:Prog)(env:List Formal)(x:Ty):List Sig:=sortSi (setU p env x)
theorem specsT_names (p:Prog)(x:Ty):((specsT p x).map (·.name)).Nodup:=by
 unfold specsT
 split
 ·exact (specL_names _ _ _ _ (Nat.le_refl _)).1
 ·simp
theorem specsT_len (p:Prog)(h:p.Sm)(x:Ty):(specsT p x).length≤sm:=by
 unfold specsT
 split
 ·rename_i hi
  obtain⟨d,hd,_⟩:=inst_decl (by decide) hi
  rw [hd,Option.getD_some]
  exact Nat.le_trans (specL_len _ _ _ _) (h.decls.2 d (declT_mem hd)).sigs.1
 ·simp
theorem bound_Sm {env:List Formal} {x y:Ty} (he:∀ f,f∈env→f.Sm)(h:boundV env x=some y):y.Sm:=by
 unfold boundV at h
 split at h
 ·simp at h
 ·rw [Option.map_eq_some_iff] at h
  obtain⟨f,hf,rfl⟩:=h
  exact (he f (List.mem_of_getElem? hf)).bound
theorem ok_Set (p:Prog)(h:p.Sm)(env:List Formal)(hel:env.length≤sm)(he:∀ f,f∈env→f.Sm)(x:Ty)(hx:x.Sm):CallOK Tryz.prog 74 [.dptr (tabC p) 0,.d (.slice (foR env)),tyV x] (.d (.slice (siR (setT p env x)))):=by
 have hb:=ok_Bound env x hel he
 unfold setT setU
 have hlp:=h.decls.1
 have hbs:∀ y,boundV env x=some y→y.Sm:=fun y=>bound_Sm he
 generalize boundV env x=o at *
 cases o with
 | some y =>
  have hy:=hbs y rfl
  simp only [bndV] at hb
  simp only [Option.getD_some,Option.isSome_some,if_true]
  have hsp:=ok_TSpecs p h y hy
  have hnd:=specsT_names p y
  have hln:=specsT_len p h y
  have hsn:instB p y 2=false→specsT p y=[]:=fun hf=>by unfold specsT;rw [if_neg (by rw [hf];decide)]
  rw [show (if instB p y 2=true then specsT p y else [])=specsT p y by cases hf:instB p y 2 with | false=>rw [if_neg (by decide),hsn hf] | true=>rw [if_pos rfl]]
  generalize instB p y 2=bb at *
  (refine CallOK.of_body Tryz.func74 rfl (by decide) (by rw [Tryz.ntmps74];simp) ?_;rw [Tryz.ntmps74])
  (refine AWp.seqR [0,1,2,5,6,7,8,9,10,17,22,30,33] [] (by decide +kernel) fun K hK=>?_;simp -implicitDefEqProofs only [EV,Nat.reduceAdd,Nat.reduceEqDiff,Nat.reduceLeDiff,reduceCtorEq,];refine hK _ _ ?_;clear hK K)
  (refine AWp.seqR [0,1,2,5,6,7,8,9,10,17,22,30,33] [] (by decide +kernel) fun K hK=>?_;simp -implicitDefEqProofs only [EV,Nat.reduceAdd,Nat.reduceEqDiff,reduceCtorEq,TF25];refine⟨_,.inl ⟨_,rfl,hb,rfl⟩,?_⟩;(try simp -implicitDefEqProofs only [EV,Nat.reduceAdd,Nat.reduceEqDiff,Nat.reduceBEq,Nat.reduceLeDiff,reduceCtorEq,TF25]);refine hK _ _ ?_;clear hK K)
  refine AWp.seqK fun K1 hK1=>?_
  (refine AWp.seqR [0,1,2,5,6,7,8,9,10,17,22,30,33] [] (by decide +kernel) fun K hK=>?_;simp -implicitDefEqProofs only [EV,Nat.reduceEqDiff,reduceCtorEq,];refine hK _ _ ?_;clear hK K)
  refine AWp.condT rfl ?_
  (refine AWp.lastR [0,1,2,5,6,7,8,9,10,17,22,30,33] [] (by decide +kernel) fun K hK=>?_;simp -implicitDefEqProofs only [EV,Nat.reduceAdd,Nat.reduceEqDiff,reduceCtorEq,TF25];refine hK _ _ ?_;clear hK K;try simp only [thenA,])
  refine hK1 _ _ ?_
  clear hK1 K1
  (refine AWp.seqR [0,1,2,5,6,7,8,9,10,17,22,30,33] [22] (by decide +kernel) fun K hK=>?_;simp -implicitDefEqProofs only [EV,Nat.reduceAdd,Nat.reduceEqDiff,Nat.reduceBEq,Nat.reduceLeDiff,reduceCtorEq,TF25];refine⟨_,_,_,_,_,rfl,hsp,?_⟩;(try simp -implicitDefEqProofs only [EV,Nat.reduceEqDiff,reduceCtorEq,]);refine hK _ _ ?_;clear hK K)
  refine AWp.seqK fun K1 hK1=>?_
  have fin:∀ sl bx,sget sl 9=.acc 22→bget bx 22=some (.rows 7 (siR (specsT p y)))→K1 sl bx:=fun sl bx g1 g2=>by
   refine hK1 _ _ ?_
   refine AWp.weaken (sl':=[(9,.acc 22)]) (bx':=[(22,.rows 7 (siR (specsT p y)))]) (by simp [sle,vle,g1]) (by simp [ble,g2]) ?_
   (refine AWp.seqR [0,1,2,5,6,7,8,9,10,17,22,30,33] [800035] (by decide +kernel) fun K hK=>?_;simp -implicitDefEqProofs only [EV,Nat.reduceAdd,Nat.reduceBEq,];refine⟨_,_,_,opB_sort 22 (specsT p y) rfl rfl hnd hln,?_⟩;(try simp -implicitDefEqProofs only [EV,Nat.reduceEqDiff,reduceCtorEq,]);refine hK _ _ ?_;clear hK K)
   (refine AWp.seqR [0,1,2,5,6,7,8,9,10,17,22,30,33] [] (by decide +kernel) fun K hK=>?_;simp -implicitDefEqProofs only [EV,Nat.reduceEqDiff,reduceCtorEq,];refine hK _ _ ?_;clear hK K)
   exact AWp.ret ⟨_,by rw [Tryz.results74];rfl,rfl⟩
  cases bb
  ·(refine AWp.seqR [0,1,2,5,6,7,8,9,10,17,22,30,33] [] (by decide +kernel) fun K hK=>?_;simp -implicitDefEqProofs only [EV,Nat.reduceEqDiff,reduceCtorEq,];refine hK _ _ ?_;clear hK K)
   refine AWp.condF rfl (AWp.skip (fin _ _ rfl rfl))
  ·(refine AWp.seqR [0,1,2,5,6,7,8,9,10,17,22,30,33] [] (by decide +kernel) fun K hK=>?_;simp -implicitDefEqProofs only [EV,Nat.reduceEqDiff,reduceCtorEq,];refine hK _ _ ?_;clear hK K)
   refine AWp.condF rfl (AWp.skip (fin _ _ rfl rfl))
 | none =>
  simp only [Option.getD_none,Option.isSome_none,if_neg (show ¬ (false=true) by decide)]
  simp only [bndV] at hb
  have hsp:=ok_TSpecs p h x hx
  have hmt:=ok_TMethods p h x hx
  have hnd:=specsT_names p x
  have hln:=specsT_len p h x
  have hnd2:=(methL_names p x p.decls.length (Nat.le_refl _)).1
  have hln2:=Nat.le_trans (methL_len p x p.decls.length) hlp
  generalize instB p x 2=bb at *
  (refine CallOK.of_body Tryz.func74 rfl (by decide) (by rw [Tryz.ntmps74];simp) ?_;rw [Tryz.ntmps74])
  (refine AWp.seqR [0,1,2,5,6,7,8,9,10,17,22,30,33] [] (by decide +kernel) fun K hK=>?_;simp -implicitDefEqProofs only [EV,Nat.reduceAdd,Nat.reduceEqDiff,Nat.reduceLeDiff,reduceCtorEq,];refine hK _ _ ?_;clear hK K)
  (refine AWp.seqR [0,1,2,5,6,7,8,9,10,17,22,30,33] [] (by decide +kernel) fun K hK=>?_;simp -implicitDefEqProofs only [EV,Nat.reduceAdd,Nat.reduceEqDiff,reduceCtorEq,TF25];refine⟨_,.inl ⟨_,rfl,hb,rfl⟩,?_⟩;(try simp -implicitDefEqProofs only [EV,Nat.reduceAdd,Nat.reduceEqDiff,Nat.reduceBEq,Nat.reduceLeDiff,reduceCtorEq,TF25]);refine hK _ _ ?_;clear hK K)
  refine AWp.seqK fun K1 hK1=>?_
  (refine AWp.seqR [0,1,2,5,6,7,8,9,10,17,22,30,33] [] (by decide +kernel) fun K hK=>?_;simp -implicitDefEqProofs only [EV,Nat.reduceEqDiff,reduceCtorEq,];refine hK _ _ ?_;clear hK K)
  refine AWp.condF rfl (AWp.skip (hK1 _ _ ?_))
  clear hK1 K1
  (refine AWp.seqR [0,1,2,5,6,7,8,9,10,17,22,30,33] [22] (by decide +kernel) fun K hK=>?_;simp -implicitDefEqProofs only [EV,Nat.reduceAdd,Nat.reduceEqDiff,Nat.reduceBEq,Nat.reduceLeDiff,reduceCtorEq,TF25];refine⟨_,_,_,_,_,rfl,hsp,?_⟩;(try simp -implicitDefEqProofs only [EV,Nat.reduceEqDiff,reduceCtorEq,]);refine hK _ _ ?_;clear hK K)
  refine AWp.seqK fun K1 hK1=>?_
  cases bb
  ·(refine AWp.seqR [0,1,2,5,6,7,8,9,10,17,22,30,33] [] (by decide +kernel) fun K hK=>?_;simp -implicitDefEqProofs only [EV,Nat.reduceEqDiff,reduceCtorEq,];refine hK _ _ ?_;clear hK K)
   refine AWp.condT rfl ?_
   (refine AWp.lastR [0,1,2,5,6,7,8,9,10,17,22,30,33] [33] (by decide +kernel) fun K hK=>?_;simp -implicitDefEqProofs only [EV,Nat.reduceAdd,Nat.reduceEqDiff,Nat.reduceBEq,Nat.reduceLeDiff,reduceCtorEq,TF25];refine⟨_,_,_,_,_,rfl,hmt,?_⟩;(try simp -implicitDefEqProofs only [EV,]);refine hK _ _ ?_;clear hK K;try simp only [thenA,])
   refine hK1 _ _ ?_
   rw [if_neg (by decide)]
   (refine AWp.seqR [0,1,2,5,6,7,8,9,10,17,22,30,33] [800035] (by decide +kernel) fun K hK=>?_;simp -implicitDefEqProofs only [EV,Nat.reduceAdd,Nat.reduceEqDiff,Nat.reduceBEq,reduceCtorEq,];refine⟨_,_,_,opB_sort 33 (methL p x p.decls.length) rfl rfl hnd2 hln2,?_⟩;(try simp -implicitDefEqProofs only [EV,Nat.reduceEqDiff,reduceCtorEq,]);refine hK _ _ ?_;clear hK K)
   (refine AWp.seqR [0,1,2,5,6,7,8,9,10,17,22,30,33] [] (by decide +kernel) fun K hK=>?_;simp -implicitDefEqProofs only [EV,Nat.reduceEqDiff,reduceCtorEq,];refine hK _ _ ?_;clear hK K)
   exact AWp.ret ⟨_,by rw [Tryz.results74];rfl,rfl⟩
  ·(refine AWp.seqR [0,1,2,5,6,7,8,9,10,17,22,30,33] [] (by decide +kernel) fun K hK=>?_;simp -implicitDefEqProofs only [EV,Nat.reduceEqDiff,reduceCtorEq,];refine hK _ _ ?_;clear hK K)
   refine AWp.condF rfl (AWp.skip (hK1 _ _ ?_))
   rw [if_pos rfl]
   (refine AWp.seqR [0,1,2,5,6,7,8,9,10,17,22,30,33] [800035] (by decide +kernel) fun K hK=>?_;simp -implicitDefEqProofs only [EV,Nat.reduceAdd,Nat.reduceEqDiff,Nat.reduceBEq,reduceCtorEq,];refine⟨_,_,_,opB_sort 22 (specsT p x) rfl rfl hnd hln,?_⟩;(try simp -implicitDefEqProofs only [EV,Nat.reduceEqDiff,reduceCtorEq,]);refine hK _ _ ?_;clear hK K)
   (refine AWp.seqR [0,1,2,5,6,7,8,9,10,17,22,30,33] [] (by decide +kernel) fun K hK=>?_;simp -implicitDefEqProofs only [EV,Nat.reduceEqDiff,reduceCtorEq,];refine hK _ _ ?_;clear hK K)
   exact AWp.ret ⟨_,by rw [Tryz.results74];rfl,rfl⟩
end Go.Abs
