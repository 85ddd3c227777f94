/- several texts in one -/
import Derived.Test.YtenheogknlmohaaGreatDoorYSA
namespace Go.Abs
set_option linter.unusedSimpArgs false
set_option linter.unusedVariables false
open Go Go.Proofs
set_option maxRecDepth 100000
set_option maxHeartbeats 1000000
def declT (p:Prog)(nm:Str):Option Decl:=p.decls.find? (fun d=>d.isT nm)
def formalsT (p:Prog)(nm:Str):List Formal:=match declT p nm with
 | some d=>d.formals
 | none=>[]
theorem ok_RefFormals (p:Prog)(nm:Str):CallOK Tryz.prog 44 [prV p,strV nm] (.d (.slice (foR (formalsT p nm)))):=by
 refine CallB.bd (Enters.of Tryz.func44 rfl (by decide)) fun hbd=>?_
 have hok:=prog_ok hbd.1
 have hl:=hok.decls.1
 (refine CallOK.of_body Tryz.func44 rfl (by decide) (by rw [Tryz.ntmps44];simp) ?_;rw [Tryz.ntmps44])
 (refine AWp.seqR [0,1,2,4,5,10] [] (by decide +kernel) fun K hK=>?_;simp -implicitDefEqProofs only [EV,Nat.reduceAdd,Nat.reduceEqDiff,Nat.reduceLeDiff,reduceCtorEq,];refine hK _ _ ?_;clear hK K)
 (refine AWp.seqR [0,1,2,4,5,10] [] (by decide +kernel) fun K hK=>?_;simp -implicitDefEqProofs only [EV,Nat.reduceAdd,Nat.reduceEqDiff,reduceCtorEq,TF30,];refine⟨_,.inl ⟨_,rfl,ok_Find p nm,rfl⟩,?_⟩;(try simp -implicitDefEqProofs only [EV,]);refine hK _ _ ?_;clear hK K)
 refine AWp.seqK fun K1 hK1=>?_
 rcases findD_find nm p.decls 0 with ⟨h1,h2⟩ | ⟨k,d,h1,h2,h3⟩
 ·rw [h1]
  have hk:formalsT p nm=[]:=by simp [formalsT,declT,h2]
  (refine AWp.seqR [0,1,2,4,5,10] [] (by decide +kernel) fun K hK=>?_;simp -implicitDefEqProofs only [EV,Nat.reduceEqDiff,Int.reduceLT,reduceCtorEq,Int.reduceNeg,];refine hK _ _ ?_;clear hK K)
  refine AWp.takeIfK rfl ?_
  (refine AWp.seqR [0,1,2,4,5,10] [] (by decide +kernel) fun K hK=>?_;simp -implicitDefEqProofs only [EV,Nat.reduceEqDiff,reduceCtorEq,Int.reduceNeg,];refine hK _ _ ?_;clear hK K)
  rw [hk]
  exact AWp.ret ⟨_,by rw [Tryz.results44];rfl,rfl⟩
 ·rw [h2]
  have hk:formalsT p nm=d.formals:=by simp [formalsT,declT,h3]
  have hge:¬ ((0+k:Nat):Int) < 0:=by omega
  have hkl:((0+k:Nat):Int).toNat=k:=by omega
  (refine AWp.seqR [0,1,2,4,5,10] [] (by decide +kernel) fun K hK=>?_;simp -implicitDefEqProofs only [EV,Nat.reduceEqDiff,reduceCtorEq,];refine hK _ _ ?_;clear hK K)
  refine AWp.skipIfK rfl hK1 ?_
  clear hK1 K1
  (refine AWp.seqR [0,1,2,4,5,10] [] (by decide +kernel) fun K hK=>?_;simp -implicitDefEqProofs only [EV,Nat.reduceEqDiff,reduceCtorEq,TF22,TF30,TF46,TF80,];refine⟨by omega,_,deR_get h1,rfl,?_⟩;(try simp -implicitDefEqProofs only [EV,Nat.reduceEqDiff,reduceCtorEq,]);refine hK _ _ ?_;clear hK K)
  rw [hk]
  exact AWp.ret ⟨_,by rw [Tryz.results44];rfl,rfl⟩
def instB (p:Prog)(x:Ty)(k:Int):Bool:=decide (kindOf p x.name=k) && decide ((formalsT p x.name).length=x.args.length)
theorem ok_RefInstance (p:Prog)(x:Ty)(k:Int):CallOK Tryz.prog 79 [prV p,tyV x,intV k] (boolV (instB p x k)):=by
 unfold instB
 have hf:=ok_RefFormals p x.name
 have hk:=ok_Kind p x.name
 generalize kindOf p x.name=k' at *
 generalize formalsT p x.name=l at *
 (refine CallOK.of_body Tryz.func79 rfl (by decide) (by rw [Tryz.ntmps79];simp) ?_;rw [Tryz.ntmps79])
 (refine AWp.seqR [0,1,2,3,4,6] [] (by decide +kernel) fun K hK=>?_;simp -implicitDefEqProofs only [EV,Nat.reduceAdd,Nat.reduceEqDiff,Nat.reduceBEq,Nat.reduceLeDiff,reduceCtorEq,];refine hK _ _ ?_;clear hK K)
 by_cases h1:k'=k
 ·have e1:((l.length:Int)=(x.args.length:Int))↔l.length=x.args.length:=by omega
  (refine AWp.seqD [0,1,2,3,4,6] [] 18 mixed (by decide +kernel) (by decide +kernel) fun K hK=>?_;simp -implicitDefEqProofs only [EV,Nat.reduceAdd,Nat.reduceEqDiff,reduceCtorEq,TF9,TF25,TF30,];refine⟨_,.inl ⟨_,rfl,hk,rfl⟩,?_⟩;(try simp -implicitDefEqProofs only [EV,Nat.reduceAdd,Nat.reduceEqDiff,reduceCtorEq,TF9,TF25,TF30,h1]);refine⟨_,.inl ⟨_,rfl,hf,rfl⟩,?_⟩;(try simp -implicitDefEqProofs only [EV,Nat.reduceEqDiff,reduceCtorEq,TF23,TF25,TF46]);refine hK _ _ ?_;clear hK K)
  simp only [h1,e1,decide_true,Bool.true_and]
  exact AWp.ret ⟨_,by rw [Tryz.results79];rfl,rfl⟩
 ·(refine AWp.seqD [0,1,2,3,4,6] [] 18 mixed (by decide +kernel) (by decide +kernel) fun K hK=>?_;simp -implicitDefEqProofs only [EV,Nat.reduceAdd,Nat.reduceEqDiff,reduceCtorEq,TF9,TF25,TF30];refine⟨_,.inl ⟨_,rfl,hk,rfl⟩,?_⟩;(try simp -implicitDefEqProofs only [EV,Nat.reduceEqDiff,reduceCtorEq,h1]);refine hK _ _ ?_;clear hK K)
  simp only [h1,decide_false,Bool.false_and]
  exact AWp.ret ⟨_,by rw [Tryz.results79];rfl,rfl⟩
end Go.Abs
namespace Go.Abs
set_option linter.unusedSimpArgs false
set_option linter.unusedVariables false
open Go Go.Proofs
set_option maxRecDepth 100000
set_option maxHeartbeats 1000000
mutual
def isVal:Ex→Bool
 | .mk k _ _ _ ks _=>isValL ks && decide (k=3)
def isValL:List Ex→Bool
 | []=>true
 | e::es=>isVal e && isValL es
end
theorem isVal_eq (e:Ex):isVal e=(isValL e.kids && decide (e.kind=3)):=by cases e with | mk k n t a ks p=>rw [isVal];rfl
theorem ok_RefValue:∀ e:Ex,e.Sm→CallOK Tryz.prog 51 [exV e] (boolV (isVal e)):=by
 intro e
 induction e using Ex.induct with
 | h e ih =>
 intro hs
 have hkl:=hs.kids.1
 rw [isVal_eq]
 (refine CallOK.of_body Tryz.func51 rfl (by decide) (by rw [Tryz.ntmps51];simp) ?_;rw [Tryz.ntmps51])
 (refine AWp.seqR [0,1,2,3,8,17] [] (by decide +kernel) fun K hK=>?_;simp -implicitDefEqProofs only [EV,Nat.reduceEqDiff,Nat.reduceLeDiff,reduceCtorEq,];refine hK _ _ ?_;clear hK K)
 refine AWp.seqK fun K1 hK1=>?_
 (refine AWp.seqR [0,1,2,3,8,17] [] (by decide +kernel) fun K hK=>?_;simp -implicitDefEqProofs only [EV,Nat.reduceEqDiff,reduceCtorEq,];refine hK _ _ ?_;clear hK K)
 refine AWp.block (AWp.forIdx e.kids (X:=Unit) (fun j _=>[(1,.box 1 0),(3,intV j)]) (fun _ _=>[(1,.cells (exS e))])
  (fun j _=>isValL (e.kids.drop j)=isValL e.kids) () rfl (by simp [sle,vle,sget]) (by simp [ble,bget,]) ?_ ?_)
 ·intro _ hI
  refine AWp.seqK fun K2 hK2=>?_
  (refine AWp.seqR [0,1,2,3,8,17] [] (by decide +kernel) fun K hK=>?_;simp -implicitDefEqProofs only [EV,Nat.reduceEqDiff,reduceCtorEq,TF26,TF28,Int.lt_irrefl];refine hK _ _ ?_;clear hK K)
  refine AWp.stopK rfl ?_
  simp only [thenA,blockA,if_true]
  refine hK1 _ _ ?_
  (refine AWp.seqR [0,1,2,3,8,17] [] (by decide +kernel) fun K hK=>?_;simp -implicitDefEqProofs only [EV,Nat.reduceEqDiff,reduceCtorEq,TF3,TF28];refine hK _ _ ?_;clear hK K)
  rw [List.drop_length,isValL] at hI
  rw [← hI,Bool.true_and]
  exact AWp.ret ⟨_,by rw [Tryz.results51];rfl,rfl⟩
 ·intro j _ d hd hmem hdrop htake hlt hI
  rw [hdrop,isValL] at hI
  refine AWp.seqK fun K2 hK2=>?_
  (refine AWp.seqR [0,1,2,3,8,17] [] (by decide +kernel) fun K hK=>?_;simp -implicitDefEqProofs only [EV,Nat.reduceEqDiff,reduceCtorEq,TF26,TF28,hlt];refine hK _ _ ?_;clear hK K)
  refine AWp.goOnK rfl hK2 ?_
  clear hK2 K2
  refine AWp.seqK fun K2 hK2=>?_
  refine AWp.block ?_
  (refine AWp.seqR [0,1,2,3,8,17] [] (by decide +kernel) fun K hK=>?_;simp -implicitDefEqProofs only [EV,Nat.reduceEqDiff,reduceCtorEq,TF26,TF28];refine⟨by omega,_,exR_get hd,rfl,?_⟩;(try simp -implicitDefEqProofs only [EV,Nat.reduceAdd,Nat.reduceEqDiff,reduceCtorEq,]);refine⟨_,.inl ⟨_,rfl,ih d hmem (hs.kids.2 d hmem),rfl⟩,?_⟩;(try simp -implicitDefEqProofs only [EV,Nat.reduceEqDiff,reduceCtorEq,]);refine hK _ _ ?_;clear hK K)
  refine AWp.cond rfl (fun hc=>?_) (fun hc=>?_)
  ·(refine AWp.seqR [0,1,2,3,8,17] [] (by decide +kernel) fun K hK=>?_;simp -implicitDefEqProofs only [EV,Nat.reduceEqDiff,reduceCtorEq,];refine hK _ _ ?_;clear hK K)
   simp only [Bool.not_eq_true'] at hc
   rw [hc,Bool.false_and] at hI
   rw [← hI,Bool.false_and]
   exact AWp.ret ⟨_,by rw [Tryz.results51];rfl,rfl⟩
  simp only [Bool.not_eq_false'] at hc
  rw [hc,Bool.true_and] at hI
  refine AWp.skip (hK2 _ _ ?_)
  clear hK2 K2
  (refine AWp.lastR [0,1,2,3,8,17] [] (by decide +kernel) fun K hK=>?_;simp -implicitDefEqProofs only [EV,Nat.reduceEqDiff,reduceCtorEq,];refine⟨by first | (unfold InR;omega) | (simp only [InR,sm] at *;omega),?_⟩;(try simp -implicitDefEqProofs only [EV,forall_const,implies_true,Nat.reduceAdd,Nat.reduceEqDiff,Nat.reduceBEq,Nat.reduceLeDiff,Nat.reduceSub,Nat.reduceMul,Int.reduceEq,Int.reduceLT,Int.reduceLE,Int.reduceSub,Int.reduceAdd,Int.reduceToNat,reduceCtorEq,Int.reduceNeg,TF3,TF4,TF9,TF26,TF28]);refine hK _ _ ?_;clear hK K;try simp only [thenA,])
  exact⟨(),hI,(by simp [sle,vle,sget]),(by simp [ble,bget,])⟩
theorem ok_RefFind12 (l:List Sig)(m:Str)(hl:l.length≤sm):CallOK Tryz.prog 115 [.d (.slice (siR l)),strV m] (intV (idxF (fun s=>decide (s.name=m)) l)):=by
 (refine CallOK.of_body Tryz.func115 rfl (by decide) (by rw [Tryz.ntmps115];simp) ?_;rw [Tryz.ntmps115])
 (refine AWp.seqR [0,1,4,5,9,18] [] (by decide +kernel) fun K hK=>?_;simp -implicitDefEqProofs only [EV,Nat.reduceAdd,Nat.reduceEqDiff,reduceCtorEq,];refine hK _ _ ?_;clear hK K)
 refine AWp.seqK fun K1 hK1=>?_
 (refine AWp.seqR [0,1,4,5,9,18] [] (by decide +kernel) fun K hK=>?_;simp -implicitDefEqProofs only [EV,Nat.reduceEqDiff,reduceCtorEq,];refine hK _ _ ?_;clear hK K)
 refine AWp.block (AWp.forIdx l (X:=Unit) (fun j _=>[(0,.d (.slice (siR l))),(1,strV m),(5,intV j)]) (fun _ _=>[])
  (fun j _=>∀ y,y∈l.take j→(fun s:Sig=>decide (s.name=m)) y=false) () (by simp) (by simp [sle,vle,sget]) (by simp [ble,]) ?_ ?_)
 ·intro _ hI
  rw [List.take_length] at hI
  refine AWp.seqK fun K2 hK2=>?_
  (refine AWp.seqR [0,1,4,5,9,18] [] (by decide +kernel) fun K hK=>?_;simp -implicitDefEqProofs only [EV,Nat.reduceEqDiff,reduceCtorEq,TF75,Int.lt_irrefl];refine hK _ _ ?_;clear hK K)
  refine AWp.stopK rfl ?_
  simp only [thenA,blockA,if_true]
  refine hK1 _ _ ?_
  (refine AWp.seqR [0,1,4,5,9,18] [] (by decide +kernel) fun K hK=>?_;simp -implicitDefEqProofs only [EV,Nat.reduceEqDiff,reduceCtorEq,Int.reduceNeg,];refine hK _ _ ?_;clear hK K)
  rw [idxF_none hI]
  exact AWp.ret ⟨_,by rw [Tryz.results115];rfl,rfl⟩
 ·intro j _ d hd hmem hdrop htake hlt hI
  refine AWp.seqK fun K2 hK2=>?_
  (refine AWp.seqR [0,1,4,5,9,18] [] (by decide +kernel) fun K hK=>?_;simp -implicitDefEqProofs only [EV,Nat.reduceEqDiff,reduceCtorEq,TF75,hlt];refine hK _ _ ?_;clear hK K)
  refine AWp.goOnK rfl hK2 ?_
  clear hK2 K2
  refine AWp.seqK fun K2 hK2=>?_
  refine AWp.block ?_
  (refine AWp.seqR [0,1,4,5,9,18] [] (by decide +kernel) fun K hK=>?_;simp -implicitDefEqProofs only [EV,Nat.reduceEqDiff,reduceCtorEq,TF9,TF75,TF78];refine⟨by omega,_,siR_get hd,rfl,?_⟩;(try simp -implicitDefEqProofs only [EV,Nat.reduceEqDiff,reduceCtorEq,]);refine hK _ _ ?_;clear hK K)
  refine AWp.cond rfl (fun hc=>?_) (fun hc=>?_)
  ·(refine AWp.seqR [0,1,4,5,9,18] [] (by decide +kernel) fun K hK=>?_;simp -implicitDefEqProofs only [EV,Nat.reduceEqDiff,reduceCtorEq,];refine hK _ _ ?_;clear hK K)
   rw [idxF_some hd hc hI]
   exact AWp.ret ⟨_,by rw [Tryz.results115];rfl,rfl⟩
  refine AWp.skip (hK2 _ _ ?_)
  clear hK2 K2
  (refine AWp.lastR [0,1,4,5,9,18] [] (by decide +kernel) fun K hK=>?_;simp -implicitDefEqProofs only [EV,Nat.reduceEqDiff,reduceCtorEq,];refine⟨by first | (unfold InR;omega) | (simp only [InR,sm] at *;omega),?_⟩;(try simp -implicitDefEqProofs only [EV,forall_const,implies_true,Nat.reduceAdd,Nat.reduceEqDiff,Nat.reduceBEq,Nat.reduceLeDiff,Nat.reduceSub,Nat.reduceMul,Int.reduceEq,Int.reduceLT,Int.reduceLE,Int.reduceSub,Int.reduceAdd,Int.reduceToNat,reduceCtorEq,Int.reduceNeg,TF3,TF4,TF9,TF75,TF78]);refine hK _ _ ?_;clear hK K;try simp only [thenA,])
  refine⟨(),?_,(by simp [sle,vle,sget]),(by simp [ble,])⟩
  rw [htake]
  intro y hy
  rcases List.mem_append.1 hy with hy | hy
  ·exact hI y hy
  ·simp only [List.mem_cons,List.not_mem_nil,or_false] at hy
   rw [hy];exact hc
end Go.Abs
namespace Go.Abs
set_option linter.unusedSimpArgs false
set_option linter.unusedVariables false
open Go Go.Proofs
set_option maxRecDepth 100000
set_option maxHeartbeats 1000000
theorem Inv.recell {C:Ctx} {S:Nat→Prop} {w:World} {β:Names} {bx:Boxes} {b:Nat} {cs cs':List SV} (h:Inv C S w β bx)(hb:(b,BoxC.cells cs)∈bx)(hr:∀ vs,RepL S w β cs vs→RepL S w β cs' vs) :
  Inv C S w β ((b,.cells cs')::berase b bx):=by
 have hmem:∀ k c,(k,c)∈(b,BoxC.cells cs')::berase b bx→(k=b∧c=.cells cs')∨(k≠b∧(k,c)∈bx):=by
  intro k c hk
  rcases List.mem_cons.1 hk with he | hk
  ·simp only [Prod.mk.injEq] at he;exact .inl he
  ·exact .inr (mem_berase.1 hk)
 exact { h with
  box:=fun k c hk=>by
   rcases hmem k c hk with ⟨rfl,rfl⟩ | ⟨_,hk⟩
   ·obtain⟨b',ty,vs,h1,h2,h3⟩:=h.box _ _ hb
    exact⟨b',ty,vs,h1,h2,hr vs h3⟩
   ·exact h.box k c hk
  priv:=fun k c hk=>by
   rcases hmem k c hk with ⟨rfl,rfl⟩ | ⟨_,hk⟩
   ·exact h.priv _ _ hb
   ·exact h.priv k c hk
  inj:=fun k c k' c' hk hk' b' h1 h2=>by
   rcases hmem k c hk with ⟨e1,e2⟩ | ⟨hn,hm⟩ <;> rcases hmem k' c' hk' with ⟨e3,e4⟩ | ⟨hn',hm'⟩
   ·rw [e1,e2,e3,e4];exact⟨rfl,rfl⟩
   ·rw [e1] at h1;exact absurd (h.inj _ _ _ _ hb hm' b' h1 h2).1.symm hn'
   ·rw [e3] at h2;exact absurd (h.inj _ _ _ _ hm hb b' h1 h2).1 hn
   ·exact h.inj _ _ _ _ hm hm' b' h1 h2
  one:=fun k Y st k' Y' st' hk hk'=>by
   rcases hmem _ _ hk with ⟨_,e2⟩ | ⟨_,hm⟩
   ·cases e2
   ·rcases hmem _ _ hk' with ⟨_,e4⟩ | ⟨_,hm'⟩
    ·cases e4
    ·exact h.one _ _ _ _ _ _ hm hm'
  frn:=fun k Y st hk=>by
   rcases hmem _ _ hk with ⟨_,e2⟩ | ⟨_,hm⟩
   ·cases e2
   ·have hold:∀ k' c',(k',c')∈(b,BoxC.cells cs')::berase b bx→∃ y,(k',y)∈bx:=fun k' c' hk'=>by
     rcases hmem _ _ hk' with ⟨rfl,_⟩ | ⟨_,hm'⟩
     ·exact⟨_,hb⟩
     ·exact⟨_,hm'⟩
    obtain⟨h1,h2,h3,h4,B,h5,h6⟩:=h.frn k Y st hm
    exact⟨h1,h2,h3,fun k' c' hk'=>(hold k' c' hk').elim fun y hy=>h4 k' y hy,B,h5,fun b' hb'=>⟨(h6 b' hb').1,(h6 b' hb').2.1,(h6 b' hb').2.2.1,fun k' c' hk'=>(hold k' c' hk').elim fun y hy=>(h6 b' hb').2.2.2 k' y hy⟩⟩ }
theorem AWp.promoteBox {ro:Option Nat} {P:Program} {n:Nat} {Q:Exit→SL→Boxes→Prop} {sl:SL} {bx:Boxes} {c:Code} (k sz b i:Nat) {cs:List SV} (hb:bget bx b=some (.cells cs))(hi:cs[i]? = some (.d .nil))(hbk:b≠k)
  (h:AWp ro P n c Q (purge1 k sl) ((b,.cells ((cs.map (spurge k)).set i (.acc k)))::berase b ((k,.rows sz [])::bpurge k (berase k bx)))) (hkf:k≤999999:=by decide):AWp ro P n c Q sl bx:=by
 intro C S w β a hs
 obtain⟨h1,h2⟩:=hs.inv.setNew (k:=k) (w':=w) (c:=.rows sz []) { base:=none,sz:=sz } hkf (by simp) (fun _ _ _=>rfl) rfl rfl rfl (Nat.le_refl _) (fun _=>boxOK_nil)
 have hmem:(b,BoxC.cells (cs.map (spurge k)))∈(k,BoxC.rows sz [])::bpurge k (berase k bx):=by
  refine List.mem_cons_of_mem _ ?_
  have:∀ {l:Boxes} {x:BoxC},(b,x)∈l→(b,x.purge k)∈bpurge k l:=by
   intro l
   induction l with
   | nil=>intro x hx;simp at hx
   | cons p l ih =>
    intro x hx
    obtain⟨q,y⟩:=p
    rcases List.mem_cons.1 hx with he | hx
    ·simp only [Prod.mk.injEq] at he;obtain⟨rfl,rfl⟩:=he;exact List.mem_cons_self ..
    ·exact List.mem_cons_of_mem _ (ih hx)
  exact this (mem_berase.2 ⟨hbk,mem_of_bget hb⟩)
 have h3:=h1.recell (cs':=(cs.map (spurge k)).set i (.acc k)) hmem (by
  intro vs hr
  refine⟨by simpa using hr.1,?_⟩
  intro j x v hx hv
  rw [List.getElem?_set] at hx
  split at hx
  ·rename_i hij
   subst hij
   split at hx
   ·simp only [Option.some.injEq] at hx;subst hx
    have:=hr.2 i (.d .nil) v (by simp [hi,spurge,SV.has]) hv
    cases this with
    | d _ _ hq =>
     cases hq
     have:=RepV.acc (S:=S) (w:=w) (β:=upd β k { base:=none,sz:=sz }) k
     rw [upd_same] at this
     exact this
   ·simp at hx
  ·exact hr.2 j x v hx hv)
 refine h C S w _ a ⟨h3,hs.size,hs.defers,?_⟩
 intro u
 rw [sget_purge1]
 exact (hs.slot u).purge h2
theorem ok_RSubstG (vars:List Str)(args:List Ty)(hC:∀ (i:Nat)(u:Ty),args[i]? = some u→CallOK Tryz.prog 88 [tyV u,strsV [],tysV []] (tyV u)):∀ t:Ty,t.Sm→CallOK Tryz.prog 88 [tyV t,strsV vars,tysV args] (tyV (t.subst vars args)):=by
 intro t
 induction t using Ty.induct with
 | h t ih =>
 intro hsm
 have hlen:=hsm.len
 refine CallB.bd (Enters.of Tryz.func88 rfl (by decide)) fun hbd=>?_
 have hv:=(strs_ok hbd.2.1).1
 have heqn:=subst_eq vars args t
 (refine CallOK.of_body Tryz.func88 rfl (by decide) (by rw [Tryz.ntmps88];simp) ?_;rw [Tryz.ntmps88])
 (refine AWp.seqR [0,1,2,3,6,7,8,9,10,20,29,33,53,67] [] (by decide +kernel) fun K hK=>?_;simp -implicitDefEqProofs only [EV,Nat.reduceAdd,Nat.reduceEqDiff,Nat.reduceBEq,Nat.reduceLeDiff,reduceCtorEq,TF25];refine hK _ _ ?_;clear hK K)
 refine AWp.seqK fun K1 hK1=>?_
 (refine AWp.seqR [0,1,2,3,6,7,8,9,10,20,29,33,53,67] [] (by decide +kernel) fun K hK=>?_;simp -implicitDefEqProofs only [EV,Nat.reduceEqDiff,reduceCtorEq,];refine hK _ _ ?_;clear hK K)
 have fin:(t.args.length=0∧0≤indexS t.name vars 0∧indexS t.name vars 0 < args.length)=False→∀ sl bx,sle sl [(1,strsV vars),(2,tysV args),(3,.box 3 0),(6,.box 6 0)] →
   ble bx [(3,.cells [.d (.str t.name),tysV t.args,intV t.pos]),(6,.cells [.d (.str []),.d .nil,.d (.int .i64 0)])]→K1 sl bx:=by
  intro hc sl bx h1 h2
  refine hK1 _ _ (AWp.weaken h1 h2 ?_)
  clear hK1 K1
  rw [if_neg (by rw [hc];exact id)] at heqn
  (refine AWp.seqR [0,1,2,3,6,7,8,9,10,20,29,33,53,67] [] (by decide +kernel) fun K hK=>?_;simp -implicitDefEqProofs only [EV,Nat.reduceAdd,Nat.reduceEqDiff,Nat.reduceBEq,Nat.reduceLeDiff,reduceCtorEq,TF3,TF9,TF25];refine hK _ _ ?_;clear hK K)
  refine AWp.promoteBox 67 3 9 1 rfl rfl (by decide) ?_
  refine AWp.seqK fun K1 hK1=>?_
  (refine AWp.seqR [0,1,2,3,6,7,8,9,10,20,29,33,53,67] [] (by decide +kernel) fun K hK=>?_;simp -implicitDefEqProofs only [EV,Nat.reduceEqDiff,Nat.reduceBEq,reduceCtorEq,];refine hK _ _ ?_;clear hK K)
  refine AWp.block (AWp.forIdx t.args (X:=Unit) (fun j _=>[(1,strsV vars),(2,tysV args),(3,.box 3 0),(6,.box 6 0),(9,.box 9 0),(10,intV j)])
   (fun j _=>[(3,.cells [.d (.str t.name),tysV t.args,intV t.pos]),(6,.cells [.d (.str []),.d .nil,.d (.int .i64 0)]),(9,.cells [.d (.str t.name),.acc 67,intV t.pos]),(67,.rows 3 (tyR ((t.args.take j).map (Ty.subst vars args))))])
   (fun j _=>True) () trivial (by simp [sle,vle,sget]) (by simp [ble,bget,tyR_map]) ?_ ?_)
  ·intro _ _
   rw [List.take_length]
   refine AWp.seqK fun K2 hK2=>?_
   (refine AWp.seqR [0,1,2,3,6,7,8,9,10,20,29,33,53,67] [] (by decide +kernel) fun K hK=>?_;simp -implicitDefEqProofs only [EV,Nat.reduceEqDiff,reduceCtorEq,TF23,TF25,Int.lt_irrefl];refine hK _ _ ?_;clear hK K)
   refine AWp.stopK rfl ?_
   simp only [thenA,blockA,if_true]
   refine hK1 _ _ ?_
   (refine AWp.seqR [0,1,2,3,6,7,8,9,10,20,29,33,53,67] [] (by decide +kernel) fun K hK=>?_;simp -implicitDefEqProofs only [EV,Nat.reduceAdd,Nat.reduceEqDiff,reduceCtorEq,TF25];refine hK _ _ ?_;clear hK K)
   rw [heqn]
   exact AWp.ret ⟨_,by rw [Tryz.results88];rfl,rfl⟩
  ·intro j _ d hd hmem hdrop htake hlt _
   rw [htake]
   refine AWp.seqK fun K2 hK2=>?_
   (refine AWp.seqR [0,1,2,3,6,7,8,9,10,20,29,33,53,67] [] (by decide +kernel) fun K hK=>?_;simp -implicitDefEqProofs only [EV,Nat.reduceEqDiff,reduceCtorEq,TF23,TF25,hlt];refine hK _ _ ?_;clear hK K)
   refine AWp.goOnK rfl hK2 ?_
   clear hK2 K2
   refine AWp.seqK fun K2 hK2=>?_
   refine AWp.block ?_
   (refine AWp.lastD [0,1,2,3,6,7,8,9,10,20,29,33,53,67] [] 11 mixed (by decide +kernel) (by decide +kernel) fun K hK=>?_;simp -implicitDefEqProofs only [EV,Nat.reduceEqDiff,reduceCtorEq,TF23,TF25];refine⟨by omega,_,tyR_get hd,rfl,?_⟩;(try simp -implicitDefEqProofs only [EV,Nat.reduceAdd,Nat.reduceEqDiff,Nat.reduceBEq,Nat.reduceLeDiff,reduceCtorEq,TF23,TF25]);refine⟨_,.inl ⟨_,rfl,ih d hmem (hsm.arg d hmem),rfl⟩,?_⟩;(try simp -implicitDefEqProofs only [EV,Nat.reduceAdd,Nat.reduceLeDiff,Nat.reduceMul,]);refine⟨by simp,by simp only [List.length_map,List.length_take];unfold lim sm at *;omega,?_⟩;(try simp -implicitDefEqProofs only [EV,forall_const,implies_true,Nat.reduceAdd,Nat.reduceEqDiff,Nat.reduceBEq,Nat.reduceLeDiff,Nat.reduceSub,Nat.reduceMul,Int.reduceEq,Int.reduceLT,Int.reduceLE,Int.reduceSub,Int.reduceAdd,Int.reduceToNat,reduceCtorEq,Int.reduceNeg,TF3,TF4,TF9,TF23,TF25,TF76]);refine hK _ _ ?_;clear hK K;try simp only [thenA,blockA])
   refine hK2 _ _ ?_
   clear hK2 K2
   (refine AWp.lastR [0,1,2,3,6,7,8,9,10,20,29,33,53,67] [] (by decide +kernel) fun K hK=>?_;simp -implicitDefEqProofs only [EV,Nat.reduceEqDiff,reduceCtorEq,];refine⟨by first | (unfold InR;omega) | (simp only [InR,sm,lim] at *;omega),?_⟩;(try simp -implicitDefEqProofs only [EV,forall_const,implies_true,Nat.reduceAdd,Nat.reduceEqDiff,Nat.reduceBEq,Nat.reduceLeDiff,Nat.reduceSub,Nat.reduceMul,Int.reduceEq,Int.reduceLT,Int.reduceLE,Int.reduceSub,Int.reduceAdd,Int.reduceToNat,reduceCtorEq,Int.reduceNeg,TF3,TF4,TF9,TF23,TF25,TF76]);refine hK _ _ ?_;clear hK K;try simp only [thenA,])
   exact⟨(),trivial,(by simp [sle,vle,sget]),by simp [ble,bget,tyR_map,tyC]⟩
 by_cases ha:t.args.length=0
 ·have ha':(t.args.length:Int)=0:=by omega
  refine AWp.block (AWp.forIdx vars (X:=Unit) (fun j _=>[(1,strsV vars),(2,tysV args),(3,.box 3 0),(6,.box 6 0),(7,intV j)])
   (fun _ _=>[(3,.cells [.d (.str t.name),tysV t.args,intV t.pos]),(6,.cells [.d (.str []),.d .nil,.d (.int .i64 0)])])
   (fun j _=>indexS t.name (vars.drop j) j=indexS t.name vars 0) () rfl (by simp [sle,vle,sget]) (by simp [ble,bget,]) ?_ ?_)
  ·intro _ hI
   refine AWp.seqK fun K2 hK2=>?_
   (refine AWp.seqR [0,1,2,3,6,7,8,9,10,20,29,33,53,67] [] (by decide +kernel) fun K hK=>?_;simp -implicitDefEqProofs only [EV,Nat.reduceEqDiff,reduceCtorEq,TF76,Int.lt_irrefl];refine hK _ _ ?_;clear hK K)
   refine AWp.stopK rfl ?_
   simp only [thenA,blockA,if_true]
   rw [List.drop_length,indexS] at hI
   exact fin (by rw [← hI];simp) _ _ (by simp [sle,vle,sget]) (by simp [ble,bget,])
  ·intro j _ d hd hmem hdrop htake hlt hI
   rw [hdrop,indexS] at hI
   refine AWp.seqK fun K2 hK2=>?_
   (refine AWp.seqR [0,1,2,3,6,7,8,9,10,20,29,33,53,67] [] (by decide +kernel) fun K hK=>?_;simp -implicitDefEqProofs only [EV,Nat.reduceEqDiff,reduceCtorEq,TF23,TF25,TF76,hlt,ha'];refine hK _ _ ?_;clear hK K)
   refine AWp.goOnK rfl hK2 ?_
   clear hK2 K2
   refine AWp.seqK fun K2 hK2=>?_
   refine AWp.block ?_
   (refine AWp.seqD [0,1,2,3,6,7,8,9,10,20,29,33,53,67] [] 7 mixed (by decide +kernel) (by decide +kernel) fun K hK=>?_;simp -implicitDefEqProofs only [EV,Nat.reduceEqDiff,reduceCtorEq,TF9,TF76];refine⟨by omega,_,strR_get hd,rfl,?_⟩;(try simp -implicitDefEqProofs only [EV,Nat.reduceEqDiff,reduceCtorEq,TF9,TF25]);refine hK _ _ ?_;clear hK K)
   refine AWp.cond rfl (fun hc=>?_) (fun hc=>?_)
   ·have hn:d=t.name:=by simpa using hc
    rw [if_pos hn.symm] at hI
    rw [← hI] at heqn
    have e0:(0:Int)≤(j:Int):=by omega
    refine AWp.seqK fun K3 hK3=>?_
    (refine AWp.seqR [0,1,2,3,6,7,8,9,10,20,29,33,53,67] [] (by decide +kernel) fun K hK=>?_;simp -implicitDefEqProofs only [EV,Nat.reduceEqDiff,reduceCtorEq,TF23,];refine hK _ _ ?_;clear hK K)
    refine AWp.ifRetK rfl hK3 (fun hc2=>?_) (fun hc2=>?_)
    ·have hge:¬ (j:Int) < (args.length:Int):=by
      have:=hc2
      simp only [decide_eq_true_eq] at this
      omega
     rw [if_neg (fun h=>hge h.2.2),List.eq_nil_of_length_eq_zero ha] at heqn
     (refine AWp.seqR [0,1,2,3,6,7,8,9,10,20,29,33,53,67] [] (by decide +kernel) fun K hK=>?_;simp -implicitDefEqProofs only [EV,Nat.reduceAdd,Nat.reduceEqDiff,reduceCtorEq,TF25];refine hK _ _ ?_;clear hK K)
     rw [heqn,show t.args=[] from List.eq_nil_of_length_eq_zero ha]
     exact AWp.ret ⟨_,by rw [Tryz.results88];rfl,rfl⟩
    clear hK3 K3
    have hlt2:(j:Int) < (args.length:Int):=by
     have:=hc2
     simp only [decide_eq_false_iff_not] at this
     omega
    rw [if_pos ⟨ha,e0,hlt2⟩] at heqn
    have hx:args[j]? = some args[j]:=List.getElem?_eq_getElem (by omega)
    rw [Int.toNat_natCast,hx,Option.getD_some] at heqn
    generalize args[j]=u at *
    (refine AWp.seqR [0,1,2,3,6,7,8,9,10,20,29,33,53,67] [] (by decide +kernel) fun K hK=>?_;simp -implicitDefEqProofs only [EV,Nat.reduceEqDiff,reduceCtorEq,TF23,TF25];refine⟨by omega,_,tyR_get hx,rfl,?_⟩;(try simp -implicitDefEqProofs only [EV,Nat.reduceAdd,Nat.reduceEqDiff,Nat.reduceBEq,Nat.reduceLeDiff,reduceCtorEq,TF25]);refine⟨_,.inl ⟨_,rfl,hC _ u hx,rfl⟩,?_⟩;(try simp -implicitDefEqProofs only [EV,Nat.reduceAdd,Nat.reduceEqDiff,reduceCtorEq,]);refine hK _ _ ?_;clear hK K)
    (refine AWp.seqR [0,1,2,3,6,7,8,9,10,20,29,33,53,67] [] (by decide +kernel) fun K hK=>?_;simp -implicitDefEqProofs only [EV,Nat.reduceAdd,Nat.reduceEqDiff,reduceCtorEq,TF3,TF25];refine hK _ _ ?_;clear hK K)
    (refine AWp.seqR [0,1,2,3,6,7,8,9,10,20,29,33,53,67] [] (by decide +kernel) fun K hK=>?_;simp -implicitDefEqProofs only [EV,Nat.reduceAdd,Nat.reduceEqDiff,reduceCtorEq,TF25];refine hK _ _ ?_;clear hK K)
    rw [heqn]
    exact AWp.ret ⟨_,by rw [Tryz.results88];rfl,rfl⟩
   ·have hn:¬ d=t.name:=by simpa using hc
    rw [if_neg (fun h=>hn h.symm)] at hI
    refine AWp.skip (hK2 _ _ ?_)
    clear hK2 K2
    (refine AWp.lastR [0,1,2,3,6,7,8,9,10,20,29,33,53,67] [] (by decide +kernel) fun K hK=>?_;simp -implicitDefEqProofs only [EV,Nat.reduceEqDiff,reduceCtorEq,];refine⟨by first | (unfold InR;omega) | (simp only [InR,sm,lim] at *;omega),?_⟩;(try simp -implicitDefEqProofs only [EV,forall_const,implies_true,Nat.reduceAdd,Nat.reduceEqDiff,Nat.reduceBEq,Nat.reduceLeDiff,Nat.reduceSub,Nat.reduceMul,Int.reduceEq,Int.reduceLT,Int.reduceLE,Int.reduceSub,Int.reduceAdd,Int.reduceToNat,reduceCtorEq,Int.reduceNeg,TF3,TF4,TF9,TF23,TF25,TF76]);refine hK _ _ ?_;clear hK K;try simp only [thenA,])
    exact⟨(),hI,(by simp [sle,vle,sget]),(by simp [ble,bget,])⟩
 ·have ha':¬ (t.args.length:Int)=0:=by omega
  have hno:(t.args.length=0∧0≤indexS t.name vars 0∧indexS t.name vars 0 < args.length)=False:=by simp [ha]
  refine AWp.block (AWp.forIdx ([]:List Nat) (X:=Unit) (fun j _=>[(1,strsV vars),(2,tysV args),(3,.box 3 0),(6,.box 6 0),(7,intV 0)])
   (fun _ _=>[(3,.cells [.d (.str t.name),tysV t.args,intV t.pos]),(6,.cells [.d (.str []),.d .nil,.d (.int .i64 0)])])
   (fun j _=>True) () trivial (by simp [sle,vle,sget]) (by simp [ble,bget,]) ?_ ?_)
  ·intro _ _
   refine AWp.seqK fun K2 hK2=>?_
   by_cases he:(0:Int) < (vars.length:Int)
   ·(refine AWp.seqR [0,1,2,3,6,7,8,9,10,20,29,33,53,67] [] (by decide +kernel) fun K hK=>?_;simp -implicitDefEqProofs only [EV,Nat.reduceEqDiff,reduceCtorEq,TF23,TF25,TF76,ha',he];refine hK _ _ ?_;clear hK K)
    refine AWp.stopK rfl ?_
    simp only [thenA,blockA,if_true]
    exact fin hno _ _ (by simp [sle,vle,sget]) (by simp [ble,bget,])
   ·(refine AWp.seqR [0,1,2,3,6,7,8,9,10,20,29,33,53,67] [] (by decide +kernel) fun K hK=>?_;simp -implicitDefEqProofs only [EV,Nat.reduceEqDiff,reduceCtorEq,TF76,he];refine hK _ _ ?_;clear hK K)
    refine AWp.stopK rfl ?_
    simp only [thenA,blockA,if_true]
    exact fin hno _ _ (by simp [sle,vle,sget]) (by simp [ble,bget,])
  ·intro j _ d hd
   simp at hd
theorem ok_RClone (t:Ty)(h:t.Sm):CallOK Tryz.prog 88 [tyV t,strsV [],tysV []] (tyV t):=by
 have:=ok_RSubstG [] [] (by simp) t h
 rw [subst_nil] at this
 exact this
theorem ok_RSubst (vars:List Str)(args:List Ty)(ha:∀ u,u∈args→u.Sm)(t:Ty)(h:t.Sm):CallOK Tryz.prog 88 [tyV t,strsV vars,tysV args] (tyV (t.subst vars args)) :=
 ok_RSubstG vars args (fun i u hu=>ok_RClone u (ha u (List.mem_of_getElem? hu))) t h
end Go.Abs
namespace Go.Abs
set_option linter.unusedSimpArgs false
set_option linter.unusedVariables false
open Go Go.Proofs
set_option maxRecDepth 100000
set_option maxHeartbeats 1000000
theorem ok_RAll (vars:List Str)(args:List Ty)(ha:∀ u,u∈args→u.Sm)(l:List Ty)(hl:l.length≤sm)(hs:∀ t,t∈l→t.Sm) :
  CallOK Tryz.prog 143 [tysV l,strsV vars,tysV args] (tysV (l.map (Ty.subst vars args))):=by
 (refine CallOK.of_body Tryz.func143 rfl (by decide) (by rw [Tryz.ntmps143];simp) ?_;rw [Tryz.ntmps143])
 (refine AWp.seqR [0,1,2,6,7,8,12] [] (by decide +kernel) fun K hK=>?_;simp -implicitDefEqProofs only [EV,Nat.reduceAdd,Nat.reduceEqDiff,reduceCtorEq,];refine hK _ _ ?_;clear hK K)
 (refine AWp.seqR [0,1,2,6,7,8,12] [] (by decide +kernel) fun K hK=>?_;simp -implicitDefEqProofs only [EV,Nat.reduceEqDiff,reduceCtorEq,];refine hK _ _ ?_;clear hK K)
 refine AWp.promote 7 3 7 rfl ?_
 refine AWp.seqK fun K1 hK1=>?_
 (refine AWp.seqR [0,1,2,6,7,8,12] [] (by decide +kernel) fun K hK=>?_;simp -implicitDefEqProofs only [EV,Nat.reduceEqDiff,reduceCtorEq,];refine hK _ _ ?_;clear hK K)
 refine AWp.block (AWp.forIdx l (X:=Unit) (fun j _=>[(0,tysV l),(1,strsV vars),(2,tysV args),(7,.acc 7),(8,intV j)]) (fun j _=>[(7,.rows 3 (tyR ((l.take j).map (Ty.subst vars args))))])
  (fun j _=>True) () trivial (by simp [sle,vle,sget]) (by simp [ble,bget,tyR_map]) ?_ ?_)
 ·intro _ hI
  rw [List.take_length]
  refine AWp.seqK fun K2 hK2=>?_
  (refine AWp.seqR [0,1,2,6,7,8,12] [] (by decide +kernel) fun K hK=>?_;simp -implicitDefEqProofs only [EV,Nat.reduceEqDiff,reduceCtorEq,TF23,Int.lt_irrefl];refine hK _ _ ?_;clear hK K)
  refine AWp.stopK rfl ?_
  simp only [thenA,blockA,if_true]
  refine hK1 _ _ ?_
  (refine AWp.seqR [0,1,2,6,7,8,12] [] (by decide +kernel) fun K hK=>?_;simp -implicitDefEqProofs only [EV,Nat.reduceEqDiff,reduceCtorEq,];refine hK _ _ ?_;clear hK K)
  exact AWp.ret ⟨_,by rw [Tryz.results143];rfl,rfl⟩
 ·intro j _ d hd hmem hdrop htake hlt hI
  rw [htake]
  refine AWp.seqK fun K2 hK2=>?_
  (refine AWp.seqR [0,1,2,6,7,8,12] [] (by decide +kernel) fun K hK=>?_;simp -implicitDefEqProofs only [EV,Nat.reduceEqDiff,reduceCtorEq,TF23,hlt];refine hK _ _ ?_;clear hK K)
  refine AWp.goOnK rfl hK2 ?_
  clear hK2 K2
  refine AWp.seqK fun K2 hK2=>?_
  refine AWp.block ?_
  (refine AWp.lastR [0,1,2,6,7,8,12] [] (by decide +kernel) fun K hK=>?_;simp -implicitDefEqProofs only [EV,Nat.reduceEqDiff,reduceCtorEq,TF23,TF25];refine⟨by omega,_,tyR_get hd,rfl,?_⟩;(try simp -implicitDefEqProofs only [EV,Nat.reduceAdd,Nat.reduceEqDiff,Nat.reduceBEq,Nat.reduceLeDiff,reduceCtorEq,TF23,TF25]);refine⟨_,.inl ⟨_,rfl,ok_RSubst vars args ha d (hs d hmem),rfl⟩,?_⟩;(try simp -implicitDefEqProofs only [EV,Nat.reduceAdd,Nat.reduceLeDiff,Nat.reduceMul,]);refine⟨by simp,by simp only [List.length_map,List.length_take];unfold lim sm at *;omega,?_⟩;(try simp -implicitDefEqProofs only [EV,forall_const,implies_true,Nat.reduceAdd,Nat.reduceEqDiff,Nat.reduceBEq,Nat.reduceLeDiff,Nat.reduceSub,Nat.reduceMul,Int.reduceEq,Int.reduceLT,Int.reduceLE,Int.reduceSub,Int.reduceAdd,Int.reduceToNat,reduceCtorEq,Int.reduceNeg,TF3,TF4,TF9,TF23,TF25]);refine hK _ _ ?_;clear hK K;try simp only [thenA,blockA])
  refine hK2 _ _ ?_
  clear hK2 K2
  (refine AWp.lastR [0,1,2,6,7,8,12] [] (by decide +kernel) fun K hK=>?_;simp -implicitDefEqProofs only [EV,Nat.reduceEqDiff,reduceCtorEq,];refine⟨by first | (unfold InR;omega) | (simp only [InR,sm] at *;omega),?_⟩;(try simp -implicitDefEqProofs only [EV,forall_const,implies_true,Nat.reduceAdd,Nat.reduceEqDiff,Nat.reduceBEq,Nat.reduceLeDiff,Nat.reduceSub,Nat.reduceMul,Int.reduceEq,Int.reduceLT,Int.reduceLE,Int.reduceSub,Int.reduceAdd,Int.reduceToNat,reduceCtorEq,Int.reduceNeg,TF3,TF4,TF9,TF23,TF25]);refine hK _ _ ?_;clear hK K;try simp only [thenA,])
  exact⟨(),trivial,(by simp [sle,vle,sget]),by simp [ble,bget,tyR_map,tyC]⟩
end Go.Abs
