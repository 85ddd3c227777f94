/- castingsref12.Set -/
import Derived.Test.YtenheogknlmohaaGreatDoorYS21
namespace Go.Abs
set_option linter.unusedSimpArgs false
set_option linter.unusedVariables false
open Go Go.Proofs
set_option maxRecDepth 100000
set_option maxHeartbeats 1000000
def InsI (m:List Sig)(i j:Nat):Prop:=∀ (a b:Nat)(s t:Sig),a < b→b≤i→b≠j→m[a]? = some s→m[b]? = some t→cmpS s.name t.name≤0
def swapS (m:List Sig)(j:Nat)(s t:Sig):List Sig:=(m.set j s).set (j - 1) t
theorem swapS_get {m:List Sig} {j:Nat} {s t:Sig} (hj:0 < j)(hs:m[j - 1]? = some s)(ht:m[j]? = some t)(a:Nat) :
  (swapS m j s t)[a]? = if a=j - 1 then some t else if a=j then some s else m[a]?:=by
 have h1:=(List.getElem?_eq_some_iff.1 hs).1
 have h2:=(List.getElem?_eq_some_iff.1 ht).1
 unfold swapS
 rw [List.getElem?_set,List.getElem?_set]
 by_cases a1:a=j - 1
 ·subst a1;simp;omega
 ·by_cases a2:a=j
  ·subst a2;simp [a1,Ne.symm a1,h2]
  ·simp [a1,a2,Ne.symm a1,Ne.symm a2]
theorem swapS_perm {m:List Sig} {j:Nat} {s t:Sig} (hj:0 < j)(hs:m[j - 1]? = some s)(ht:m[j]? = some t):(swapS m j s t).Perm m:=by
 have h1:=(List.getElem?_eq_some_iff.1 hs)
 have h2:=(List.getElem?_eq_some_iff.1 ht)
 obtain⟨a1,rfl⟩:=h1
 obtain⟨a2,rfl⟩:=h2
 have e1:m=m.take (j - 1)++m[j - 1]::m[j]::m.drop (j+1):=by
  conv=>lhs;rw [← List.take_append_drop (j - 1) m]
  rw [List.drop_eq_getElem_cons a1]
  congr 2
  have:j - 1+1=j:=by omega
  rw [this,List.drop_eq_getElem_cons a2]
 have e2:swapS m j m[j - 1] m[j]=m.take (j - 1)++m[j]::m[j - 1]::m.drop (j+1):=by
  refine List.ext_getElem? fun a=>?_
  rw [swapS_get hj hs ht]
  have hl:(m.take (j - 1)).length=j - 1:=by rw [List.length_take];omega
  by_cases b1:a < j - 1
  ·rw [if_neg (by omega),if_neg (by omega),List.getElem?_append_left (by omega),List.getElem?_take_of_lt b1]
  ·rw [List.getElem?_append_right (by omega),hl]
   obtain⟨c,rfl⟩:∃ c,a=j - 1+c:=⟨a - (j - 1),by omega⟩
   rw [show j - 1+c - (j - 1)=c by omega]
   match c with
   | 0=>simp
   | 1=>rw [if_neg (by omega),if_pos (by omega)];simp
   | c+2 =>
    rw [if_neg (by omega),if_neg (by omega)]
    simp only [List.getElem?_cons_succ,List.getElem?_drop]
    congr 1;omega
 rw [e2]
 conv=>rhs;rw [e1]
 exact List.Perm.append_left _ (List.Perm.swap ..)
theorem InsI.step {m:List Sig} {i j:Nat} {s t:Sig} (h:InsI m i j)(hj:0 < j)(hji:j≤i)(hs:m[j - 1]? = some s)(ht:m[j]? = some t)(hlt:cmpS t.name s.name < 0):InsI (swapS m j s t) i (j - 1):=by
 intro a b u v hab hbi hbj hu hv
 rw [swapS_get hj hs ht] at hu hv
 rw [if_neg hbj] at hv
 by_cases b1:b=j
 ·subst b1
  simp only [if_true,Option.some.injEq] at hv
  subst hv
  by_cases a1:a=b - 1
  ·rw [if_pos a1] at hu
   simp only [Option.some.injEq] at hu
   subst hu;omega
  ·rw [if_neg a1,if_neg (by omega)] at hu
   exact h a (b - 1) u s (by omega) (by omega) (by omega) hu hs
 ·rw [if_neg b1] at hv
  by_cases a1:a=j - 1
  ·rw [if_pos a1] at hu
   simp only [Option.some.injEq] at hu
   subst hu
   exact h j b t v (by omega) hbi (by omega) ht hv
  ·rw [if_neg a1] at hu
   by_cases a2:a=j
   ·rw [if_pos a2] at hu
    simp only [Option.some.injEq] at hu
    subst hu
    exact h (j - 1) b s v (by omega) hbi (by omega) hs hv
   ·rw [if_neg a2] at hu
    exact h a b u v hab hbi b1 hu hv
def InsO (m:List Sig)(i:Nat):Prop:=∀ (a b:Nat)(s t:Sig),a < b→b < i→m[a]? = some s→m[b]? = some t→cmpS s.name t.name≤0
theorem InsO.start {m:List Sig} {i:Nat} (h:InsO m i):InsI m i i:=fun a b s t hab hbi hbj hs ht=>h a b s t hab (by omega) hs ht
theorem InsI.done {m:List Sig} {i j:Nat} (h:InsI m i j)(hd:j=0∨∃ s t,m[j - 1]? = some s∧m[j]? = some t∧cmpS s.name t.name≤0):InsO m (i+1):=by
 intro a b s t hab hbi hs ht
 by_cases hbj:b=j
 ·subst hbj
  rcases hd with h0 | ⟨u,v,hu,hv,hc⟩
  ·omega
  ·rw [hv] at ht;simp only [Option.some.injEq] at ht;subst ht
   by_cases a1:a=b - 1
   ·subst a1;rw [hu] at hs;simp only [Option.some.injEq] at hs;subst hs;exact hc
   ·exact cmpS_le_trans _ _ _ (h a (b - 1) s u (by omega) (by omega) (by omega) hs hu) hc
 ·exact h a b s t hab (by omega) hbj hs ht
theorem InsO.sorted {m l:List Sig} (hn:(l.map (·.name)).Nodup)(hp:m.Perm l)(h:InsO m m.length):m=sortSi l:=by
 refine sortSi_unique hn hp ?_
 rw [List.pairwise_iff_getElem]
 intro i j hi hj hij
 exact h i j _ _ hij hj (List.getElem?_eq_getElem hi) (List.getElem?_eq_getElem hj)
theorem siR_set (m:List Sig)(j:Nat)(s:Sig):siR (m.set j s)=(siR m).set j (siC s):=by
 simp only [siR,List.map_set]
theorem AWp.rekey {ro:Option Nat} {P:Program} {n:Nat} {Q:Exit→SL→Boxes→Prop} {sl:SL} {bx:Boxes} {c:Code} (t k k' sz:Nat)(rs:List (List D))(hk':k'≤999999)
  (hx:(sget sl t=.acc k∧bget bx k=some (.rows sz rs))∨(sget sl t=.d .nil∧rs=[])) (h:AWp ro P n c Q [(t,.acc k')] [(k',.rows sz rs)]):AWp ro P n c Q sl bx:=by
 rcases hx with ⟨h1,h2⟩ | ⟨h1,rfl⟩
 ·intro C S w β a hs
  have hm:=mem_of_bget h2
  obtain⟨b1,b2⟩:=And.intro (hs.inv.box k _ hm) (hs.inv.priv k _ hm)
  refine h C S w (upd β k' (β k)) a ⟨?_,hs.size,hs.defers,fun u=>?_⟩
  ·refine hs.inv.step (SExt.refl S w) (fun b hb=>.inl hb) hs.inv.Slt (fun b _ _=>rfl) rfl rfl rfl (Nat.le_refl _) ?_ ?_ (fun j hj=>upd_ne (by omega)) ?_
   ·intro j c hj
    simp only [List.mem_cons,Prod.mk.injEq,List.not_mem_nil,or_false] at hj
    obtain⟨rfl,rfl⟩:=hj
    rw [upd_same]
    exact⟨BoxOK.ext (c:=.rows sz rs) b1 (SExt.refl _ _) (fun _ _=>rfl) (by simp [BoxC.has]),fun b hb=>⟨(b2 b hb).1,(b2 b hb).2.1,.inr ⟨k,_,hm,hb⟩⟩⟩
   ·intro j c j' c' hj hj' b _ _
    simp only [List.mem_cons,Prod.mk.injEq,List.not_mem_nil,or_false] at hj hj'
    exact⟨hj.1.trans hj'.1.symm,hj.2.trans hj'.2.symm⟩
   ·intro j Y st hj
    simp at hj
  ·simp only [sget]
   split
   ·rename_i he;subst he
    have hv:=hs.slot t
    rw [h1] at hv
    generalize a.tmps.getD t undef=v at hv
    cases hv
    have:=RepV.acc (S:=S) (w:=w) (β:=upd β k' (β k)) k'
    rw [upd_same] at this
    exact this
   ·exact .undef _
 ·refine AWp.promote k' sz t h1 ?_ hk'
  exact AWp.weaken (by simp [sle,vle,sget]) (by simp [ble,bget]) h
theorem ok_RSet (p:Prog)(h:p.Sm)(env:List Formal)(hel:env.length≤sm)(he:∀ f,f∈env→f.Sm)(x:Ty)(hx:x.Sm):CallOK Tryz.prog 76 [prV p,.d (.slice (foR env)),tyV x] (.d (.slice (siR (setT p env x)))):=by
 have hfi:=ok_RefFind env x hel
 have hlp:=h.decls.1
 unfold setT
 have hU:setU p env x=setU p env x:=rfl
 generalize hl:setU p env x=l at hU ⊢
 clear hU
 have hnd:(l.map (·.name)).Nodup:=by
  rw [← hl];unfold setU
  split
  ·exact specsT_names _ _
  ·split
   ·simp
   ·exact (methL_names _ _ _ (Nat.le_refl _)).1
 have hln:l.length≤sm:=by
  rw [← hl];unfold setU
  split
  ·exact specsT_len p h _
  ·split
   ·simp
   ·exact Nat.le_trans (methL_len ..) hlp
 have hy:((boundV env x).getD x).Sm:=by
  cases hb:boundV env x with
  | none=>exact hx
  | some y=>exact bound_Sm he hb
 have hbv:(boundV env x).isSome = !decide (findV env x < 0):=by
  unfold boundV
  split
  ·rename_i h0;simp [h0]
  ·rename_i h0
   obtain⟨f,hf,_⟩:=findV_get h0
   simp [hf,h0]
 have hbd:¬ findV env x < 0→∃ f,env[(findV env x).toNat]? = some f∧(findV env x).toNat < env.length∧(boundV env x).getD x=f.bound:=fun h0=>by
  obtain⟨f,h1,h2,_⟩:=findV_get h0
  exact⟨f,h1,h2,by unfold boundV;rw [if_neg h0,h1];rfl⟩
 have hbn:findV env x < 0→(boundV env x).getD x=x:=fun h0=>by unfold boundV;rw [if_pos h0];rfl
 unfold setU at hl
 rw [hbv] at hl
 generalize (boundV env x).getD x=y at *
 generalize findV env x=k at *
 have hin:=ok_RefInstance p y 2
 have hsp:=ok_RSpecs p h y hy
 have hmt:=ok_RMethods p h y hy
 (refine CallOK.of_body Tryz.func76 rfl (by decide) (by rw [Tryz.ntmps76];simp) ?_;rw [Tryz.ntmps76])
 (refine AWp.seqR [0,1,2,3,5,6,7,8,9,10,11,16,24,27,29,32,36,56] [] (by decide +kernel) fun K hK=>?_;simp -implicitDefEqProofs only [EV,Nat.reduceAdd,Nat.reduceEqDiff,Nat.reduceBEq,Nat.reduceLeDiff,reduceCtorEq,];refine hK _ _ ?_;clear hK K)
 (refine AWp.seqR [0,1,2,3,5,6,7,8,9,10,11,16,24,27,29,32,36,56] [] (by decide +kernel) fun K hK=>?_;simp -implicitDefEqProofs only [EV,Nat.reduceEqDiff,reduceCtorEq,];refine hK _ _ ?_;clear hK K)
 (refine AWp.seqR [0,1,2,3,5,6,7,8,9,10,11,16,24,27,29,32,36,56] [] (by decide +kernel) fun K hK=>?_;simp -implicitDefEqProofs only [EV,Nat.reduceAdd,Nat.reduceEqDiff,reduceCtorEq,TF25,];refine⟨_,.inl ⟨_,rfl,hfi,rfl⟩,?_⟩;(try simp -implicitDefEqProofs only [EV,]);refine hK _ _ ?_;clear hK K)
 refine AWp.seqK fun K1 hK1=>?_
 have mid:∀ sl bx,sget sl 3=.box 3 0→sget sl 5=.box 5 0→sget sl 7=.d .nil→sget sl 8=intV k→bget bx 3=some (.cells ((prC p).map .d))→bget bx 5=some (.cells ((tyC y).map .d))→K1 sl bx:=fun sl bx g1 g2 g3 g4 g5 g6=>by
  refine hK1 _ _ ?_
  refine AWp.weaken (sl':=[(3,.box 3 0),(5,.box 5 0),(7,.d .nil),(8,intV k)]) (bx':=[(3,.cells ((prC p).map .d)),(5,.cells ((tyC y).map .d))]) (by simp [sle,vle,g1,g2,g3,g4]) (by simp [ble,g5,g6]) ?_
  clear hK1 K1 g1 g2 g3 g4 g5 g6
  refine AWp.seqK fun K2 hK2=>?_
  have fin:∀ q sl bx,(sget sl 7=.acc q∧bget bx q=some (.rows 7 (siR l)))∨(sget sl 7=.d .nil∧siR l=[])→K2 sl bx:=fun q sl bx g=>by
   refine hK2 _ _ ?_
   refine AWp.rekey 7 q 27 7 (siR l) (by decide) g ?_
   clear hK2 K2
   refine AWp.seqK fun K3 hK3=>?_
   (refine AWp.seqR [0,1,2,3,5,6,7,8,9,10,11,16,24,27,29,32,36,56] [] (by decide +kernel) fun K hK=>?_;simp -implicitDefEqProofs only [EV,Nat.reduceEqDiff,reduceCtorEq,];refine hK _ _ ?_;clear hK K)
   refine AWp.block (AWp.loop (X:=List Sig × Nat) (fun z=>[(7,.acc 27),(9,intV z.2)]) (fun z=>[(27,.rows 7 (siR z.1))])
    (fun z=>z.1.Perm l∧z.2≤l.length∧InsO z.1 z.2) (fun z=>l.length - z.2) (l,0) ⟨List.Perm.refl _,Nat.zero_le _,by intro a b s t _ h;omega⟩ (by simp [sle,vle,sget]) (by simp [ble,bget]) ?_)
   rintro⟨m,i⟩ ⟨hm,hil,ho⟩
   simp only at hm hil ho ⊢
   have hml:=hm.length_eq
   refine AWp.seqK fun K4 hK4=>?_
   by_cases hlt:(i:Int) < (m.length:Int)
   ·(refine AWp.seqR [0,1,2,3,5,6,7,8,9,10,11,16,24,27,29,32,36,56] [] (by decide +kernel) fun K hK=>?_;simp -implicitDefEqProofs only [EV,Nat.reduceEqDiff,reduceCtorEq,TF75,hlt];refine hK _ _ ?_;clear hK K)
    refine AWp.goOnK rfl hK4 ?_
    clear hK4 K4
    refine AWp.seqK fun K5 hK5=>?_
    refine AWp.block ?_
    (refine AWp.seqR [0,1,2,3,5,6,7,8,9,10,11,16,24,27,29,32,36,56] [] (by decide +kernel) fun K hK=>?_;simp -implicitDefEqProofs only [EV,Nat.reduceEqDiff,reduceCtorEq,];refine hK _ _ ?_;clear hK K)
    refine AWp.block (AWp.loop (X:=List Sig × Nat) (fun z=>[(7,.acc 27),(9,intV i),(10,intV z.2)]) (fun z=>[(27,.rows 7 (siR z.1))])
     (fun z=>z.1.Perm l∧z.2≤i∧InsI z.1 i z.2) (fun z=>z.2) (m,i) ⟨hm,Nat.le_refl _,ho.start⟩ (by simp [sle,vle,sget]) (by simp [ble,bget]) ?_)
    rintro⟨m,j⟩ ⟨hm,hji,hI⟩
    simp only at hm hji hI ⊢
    have hml:=hm.length_eq
    have out:InsO m (i+1)→∀ sl bx,sget sl 7=.acc 27→sget sl 9=intV i→bget bx 27=some (.rows 7 (siR m))→K5 sl bx:=fun hO sl bx g1 g2 g3=>by
     refine hK5 _ _ ?_
     refine AWp.weaken (sl':=[(7,.acc 27),(9,intV i)]) (bx':=[(27,.rows 7 (siR m))]) (by simp [sle,vle,g1,g2]) (by simp [ble,g3]) ?_
     (refine AWp.lastR [0,1,2,3,5,6,7,8,9,10,11,16,24,27,29,32,36,56] [] (by decide +kernel) fun K hK=>?_;simp -implicitDefEqProofs only [EV,Nat.reduceEqDiff,reduceCtorEq,];refine⟨by first | (unfold InR;omega) | (simp only [InR,sm] at *;omega),?_⟩;(try simp -implicitDefEqProofs only [EV,forall_const,implies_true,Nat.reduceAdd,Nat.reduceEqDiff,Nat.reduceBEq,Nat.reduceLeDiff,Nat.reduceSub,Nat.reduceMul,Int.reduceEq,Int.reduceLT,Int.reduceLE,Int.reduceSub,Int.reduceAdd,Int.reduceToNat,reduceCtorEq,Int.reduceNeg,TF3,TF4,TF9,TF25,TF30,TF46,TF75,TF78,TF84]);refine hK _ _ ?_;clear hK K;try simp only [thenA,])
     exact⟨(m,i+1),⟨hm,by simp only;omega,hO⟩,by simp only;omega,(by simp [sle,vle,sget]),by simp [ble,bget]⟩
    refine AWp.seqK fun K6 hK6=>?_
    by_cases hj0:j=0
    ·have hjn:¬ (0:Int) < (j:Int):=by omega
     (refine AWp.seqD [0,1,2,3,5,6,7,8,9,10,11,16,24,27,29,32,36,56] [] 17 mixed (by decide +kernel) (by decide +kernel) fun K hK=>?_;simp -implicitDefEqProofs only [EV,Nat.reduceEqDiff,reduceCtorEq,hjn];refine hK _ _ ?_;clear hK K)
     refine AWp.stopK rfl ?_
     simp only [thenA,blockA,if_true]
     exact out (hI.done (.inl hj0)) _ _ rfl rfl rfl
    ·have hjp:(0:Int) < (j:Int):=by omega
     obtain⟨t,ht⟩:∃ t,m[j]? = some t:=⟨_,List.getElem?_eq_getElem (by omega)⟩
     obtain⟨s,hs⟩:∃ s,m[j - 1]? = some s:=⟨_,List.getElem?_eq_getElem (by omega)⟩
     have hrt:=siR_get ht
     have hrs:=siR_get hs
     have e1:(j:Int) - 1=((j - 1:Nat):Int):=by omega
     have hcs:=ok_Compare t.name s.name
     (refine AWp.seqD [0,1,2,3,5,6,7,8,9,10,11,16,24,27,29,32,36,56] [] 17 mixed (by decide +kernel) (by decide +kernel) fun K hK=>?_;simp -implicitDefEqProofs only [EV,Nat.reduceEqDiff,TF9,TF75,TF78,hjp,e1,hrt,hrs,siC,];refine⟨by omega,by omega,?_⟩;(try simp -implicitDefEqProofs only [EV,forall_const,implies_true,Nat.reduceAdd,Nat.reduceEqDiff,Nat.reduceBEq,Nat.reduceLeDiff,Nat.reduceSub,Nat.reduceMul,Int.reduceEq,Int.reduceLT,Int.reduceLE,Int.reduceSub,Int.reduceAdd,Int.reduceToNat,reduceCtorEq,Int.reduceNeg,TF3,TF4,TF9,TF25,TF30,TF46,TF75,TF78,TF84,hjp,e1,hrt,hrs,siC,List.getElem?_cons_zero,Option.map_some]);refine⟨by first | (unfold InR;omega) | (simp only [InR,sm] at *;omega),?_⟩;(try simp -implicitDefEqProofs only [EV,forall_const,implies_true,Nat.reduceAdd,Nat.reduceEqDiff,Nat.reduceBEq,Nat.reduceLeDiff,Nat.reduceSub,Nat.reduceMul,Int.reduceEq,Int.reduceLT,Int.reduceLE,Int.reduceSub,Int.reduceAdd,Int.reduceToNat,reduceCtorEq,Int.reduceNeg,TF3,TF4,TF9,TF25,TF30,TF46,TF75,TF78,TF84,hjp,e1,hrt,hrs,siC,List.getElem?_cons_zero,Option.map_some]);refine⟨by omega,by omega,?_⟩;(try simp -implicitDefEqProofs only [EV,forall_const,implies_true,Nat.reduceAdd,Nat.reduceEqDiff,Nat.reduceBEq,Nat.reduceLeDiff,Nat.reduceSub,Nat.reduceMul,Int.reduceEq,Int.reduceLT,Int.reduceLE,Int.reduceSub,Int.reduceAdd,Int.reduceToNat,reduceCtorEq,Int.reduceNeg,TF3,TF4,TF9,TF25,TF30,TF46,TF75,TF78,TF84,hjp,e1,hrt,hrs,siC,List.getElem?_cons_zero,Option.map_some]);refine⟨_,.inl ⟨_,rfl,hcs,rfl⟩,?_⟩;(try simp -implicitDefEqProofs only [EV,Nat.reduceEqDiff,reduceCtorEq,]);refine hK _ _ ?_;clear hK K)
     refine AWp.cond rfl (fun hc=>?_) (fun hc=>?_)
     ·have hlt2:cmpS t.name s.name < 0:=by simpa using hc
      refine AWp.skip (hK6 _ _ ?_)
      clear hK6 K6 out
      refine AWp.seqK fun K7 hK7=>?_
      refine AWp.block ?_
      (refine AWp.seqR [0,1,2,3,5,6,7,8,9,10,11,16,24,27,29,32,36,56] [] (by decide +kernel) fun K hK=>?_;simp -implicitDefEqProofs only [EV,Nat.reduceAdd,Nat.reduceEqDiff,Nat.reduceBEq,Nat.reduceLeDiff,reduceCtorEq,TF75,TF78,hrt,siC,];refine⟨by omega,by omega,?_⟩;(try simp -implicitDefEqProofs only [EV,forall_const,implies_true,Nat.reduceAdd,Nat.reduceEqDiff,Nat.reduceBEq,Nat.reduceLeDiff,Nat.reduceSub,Nat.reduceMul,Int.reduceEq,Int.reduceLT,Int.reduceLE,Int.reduceSub,Int.reduceAdd,Int.reduceToNat,reduceCtorEq,Int.reduceNeg,TF3,TF4,TF9,TF25,TF30,TF46,TF75,TF78,TF84,hrt,siC,List.getElem?_cons_zero,Option.map_some]);refine hK _ _ ?_;clear hK K)
      have hrj:((siR m).set j (siC s))[j - 1]? = some (siC s):=by rw [List.getElem?_set_ne (by omega)];exact hrs
      (refine AWp.seqR [0,1,2,3,5,6,7,8,9,10,11,16,24,27,29,32,36,56] [] (by decide +kernel) fun K hK=>?_;simp -implicitDefEqProofs only [EV,Nat.reduceAdd,Nat.reduceEqDiff,reduceCtorEq,TF75,TF78,e1,hrt,hrs];refine⟨by unfold InR;unfold sm at hln;omega,by omega,by omega,by omega,by omega,_,siC s,rfl,rfl,by simp,?_⟩;(try simp -implicitDefEqProofs only [EV,Nat.reduceAdd,]);refine hK _ _ ?_;clear hK K)
      (refine AWp.lastR [0,1,2,3,5,6,7,8,9,10,11,16,24,27,29,32,36,56] [] (by decide +kernel) fun K hK=>?_;simp -implicitDefEqProofs only [EV,Nat.reduceAdd,Nat.reduceEqDiff,reduceCtorEq,TF75,TF78,e1,List.length_set];refine⟨by unfold InR;unfold sm at hln;omega,by omega,by omega,siC s,siC t,hrj,rfl,by simp [siC],?_⟩;(try simp -implicitDefEqProofs only [EV,Nat.reduceAdd,]);refine hK _ _ ?_;clear hK K;try simp only [thenA,blockA])
      refine hK7 _ _ ?_
      clear hK7 K7
      (refine AWp.lastR [0,1,2,3,5,6,7,8,9,10,11,16,24,27,29,32,36,56] [] (by decide +kernel) fun K hK=>?_;simp -implicitDefEqProofs only [EV,Nat.reduceEqDiff,reduceCtorEq,e1];refine⟨by unfold InR;unfold sm at hln;omega,?_⟩;(try simp -implicitDefEqProofs only [EV,forall_const,implies_true,Nat.reduceAdd,Nat.reduceEqDiff,Nat.reduceBEq,Nat.reduceLeDiff,Nat.reduceSub,Nat.reduceMul,Int.reduceEq,Int.reduceLT,Int.reduceLE,Int.reduceSub,Int.reduceAdd,Int.reduceToNat,reduceCtorEq,Int.reduceNeg,TF3,TF4,TF9,TF25,TF30,TF46,TF75,TF78,TF84,e1]);refine hK _ _ ?_;clear hK K;try simp only [thenA,])
      exact⟨(swapS m j s t,j - 1),⟨(swapS_perm (by omega) hs ht).trans hm,by simp only;omega,hI.step (by omega) hji hs ht hlt2⟩,by simp only;omega,(by simp [sle,vle,sget]),by simp [ble,bget,swapS,siR_set,siC]⟩
     ·have hge:cmpS s.name t.name≤0:=by
       have:=cmpS_anti t.name s.name
       have:¬ cmpS t.name s.name < 0:=by simpa using hc
       omega
      refine AWp.exit ?_
      simp only [thenA,blockA,if_true]
      exact out (hI.done (.inr ⟨s,t,hs,ht,hge⟩)) _ _ rfl rfl rfl
   ·have:i=l.length:=by omega
    subst this
    (refine AWp.seqR [0,1,2,3,5,6,7,8,9,10,11,16,24,27,29,32,36,56] [] (by decide +kernel) fun K hK=>?_;simp -implicitDefEqProofs only [EV,Nat.reduceEqDiff,reduceCtorEq,TF75,hlt];refine hK _ _ ?_;clear hK K)
    refine AWp.stopK rfl ?_
    simp only [thenA,blockA,if_true]
    refine hK3 _ _ ?_
    have hms:m=sortSi l:=(show InsO m m.length by rw [hml];exact ho).sorted hnd hm
    subst hms
    (refine AWp.seqR [0,1,2,3,5,6,7,8,9,10,11,16,24,27,29,32,36,56] [] (by decide +kernel) fun K hK=>?_;simp -implicitDefEqProofs only [EV,Nat.reduceEqDiff,reduceCtorEq,];refine hK _ _ ?_;clear hK K)
    exact AWp.ret ⟨_,by rw [Tryz.results76];rfl,rfl⟩
  by_cases hi2:instB p y 2=true
  ·rw [hi2] at hin
   rw [if_pos hi2] at hl
   subst hl
   (refine AWp.seqR [0,1,2,3,5,6,7,8,9,10,11,16,24,27,29,32,36,56] [] (by decide +kernel) fun K hK=>?_;simp -implicitDefEqProofs only [EV,Nat.reduceAdd,Nat.reduceEqDiff,reduceCtorEq,TF25,TF30,];refine⟨_,.inl ⟨_,rfl,hin,rfl⟩,?_⟩;(try simp -implicitDefEqProofs only [EV,]);refine hK _ _ ?_;clear hK K)
   refine AWp.condT rfl ?_
   (refine AWp.lastR [0,1,2,3,5,6,7,8,9,10,11,16,24,27,29,32,36,56] [27] (by decide +kernel) fun K hK=>?_;simp -implicitDefEqProofs only [EV,Nat.reduceAdd,Nat.reduceEqDiff,Nat.reduceBEq,Nat.reduceLeDiff,reduceCtorEq,TF25,TF30,];refine⟨_,_,_,_,_,rfl,hsp hi2,?_⟩;(try simp -implicitDefEqProofs only [EV,]);refine hK _ _ ?_;clear hK K;try simp only [thenA,])
   exact fin 27 _ _ (.inl ⟨rfl,rfl⟩)
  ·rw [if_neg hi2] at hl
   rw [Bool.not_eq_true] at hi2
   rw [hi2] at hin
   (refine AWp.seqR [0,1,2,3,5,6,7,8,9,10,11,16,24,27,29,32,36,56] [] (by decide +kernel) fun K hK=>?_;simp -implicitDefEqProofs only [EV,Nat.reduceAdd,Nat.reduceEqDiff,reduceCtorEq,TF25,TF30,];refine⟨_,.inl ⟨_,rfl,hin,rfl⟩,?_⟩;(try simp -implicitDefEqProofs only [EV,]);refine hK _ _ ?_;clear hK K)
   refine AWp.condF rfl ?_
   by_cases hk:k < 0
   ·rw [if_neg (by simp [hk])] at hl
    subst hl
    (refine AWp.seqR [0,1,2,3,5,6,7,8,9,10,11,16,24,27,29,32,36,56] [] (by decide +kernel) fun K hK=>?_;simp -implicitDefEqProofs only [EV,Nat.reduceEqDiff,reduceCtorEq,hk];refine hK _ _ ?_;clear hK K)
    refine AWp.condT rfl ?_
    (refine AWp.lastR [0,1,2,3,5,6,7,8,9,10,11,16,24,27,29,32,36,56] [32] (by decide +kernel) fun K hK=>?_;simp -implicitDefEqProofs only [EV,Nat.reduceAdd,Nat.reduceEqDiff,Nat.reduceBEq,Nat.reduceLeDiff,reduceCtorEq,TF25,TF30,];refine⟨_,_,_,_,_,rfl,hmt,?_⟩;(try simp -implicitDefEqProofs only [EV,]);refine hK _ _ ?_;clear hK K;try simp only [thenA,])
    exact fin 32 _ _ (.inl ⟨rfl,rfl⟩)
   ·rw [if_pos (by simp [hk])] at hl
    subst hl
    (refine AWp.seqR [0,1,2,3,5,6,7,8,9,10,11,16,24,27,29,32,36,56] [] (by decide +kernel) fun K hK=>?_;simp -implicitDefEqProofs only [EV,Nat.reduceEqDiff,reduceCtorEq,hk];refine hK _ _ ?_;clear hK K)
    exact AWp.condF rfl (AWp.skip (fin 27 _ _ (.inr ⟨rfl,rfl⟩)))
 by_cases hk:k < 0
 ·have hk':¬ k ≥ 0:=by omega
  have:=hbn hk
  subst this
  (refine AWp.seqR [0,1,2,3,5,6,7,8,9,10,11,16,24,27,29,32,36,56] [] (by decide +kernel) fun K hK=>?_;simp -implicitDefEqProofs only [EV,Nat.reduceEqDiff,reduceCtorEq,hk'];refine hK _ _ ?_;clear hK K)
  exact AWp.condF rfl (AWp.skip (mid _ _ rfl rfl rfl rfl rfl rfl))
 ·have hk':k ≥ 0:=by omega
  obtain⟨f,h1,h2,h3⟩:=hbd hk
  subst h3
  (refine AWp.seqR [0,1,2,3,5,6,7,8,9,10,11,16,24,27,29,32,36,56] [] (by decide +kernel) fun K hK=>?_;simp -implicitDefEqProofs only [EV,Nat.reduceEqDiff,reduceCtorEq,hk'];refine hK _ _ ?_;clear hK K)
  refine AWp.condT rfl ?_
  (refine AWp.lastR [0,1,2,3,5,6,7,8,9,10,11,16,24,27,29,32,36,56] [] (by decide +kernel) fun K hK=>?_;simp -implicitDefEqProofs only [EV,Nat.reduceAdd,Nat.reduceEqDiff,reduceCtorEq,TF25,TF46,TF84];refine⟨by omega,_,foR_get h1,rfl,?_⟩;(try simp -implicitDefEqProofs only [EV,Nat.reduceAdd,Nat.reduceEqDiff,Nat.reduceLeDiff,reduceCtorEq,TF25,]);refine hK _ _ ?_;clear hK K;try simp only [thenA,])
  exact mid _ _ rfl rfl rfl rfl rfl rfl
end Go.Abs
