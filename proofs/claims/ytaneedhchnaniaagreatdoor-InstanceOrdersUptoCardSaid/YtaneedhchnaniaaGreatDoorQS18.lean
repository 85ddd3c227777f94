/- slices.Grow of nil, slices.Concat[Formal] of two, bind.Join, table.Formals -/
import Derived.Test.YtaneedhchnaniaaGreatDoorQShelf
import Derived.Test.YtaneedhchnaniaaGreatDoorQS14
import Derived.Test.YtaneedhchnaniaaGreatDoorQS12
import Derived.Test.YtaneedhchnaniaaGreatDoorQSB
namespace Go.Abs
set_option linter.unusedSimpArgs false
set_option linter.unusedVariables false
open Go Go.Proofs Tryz
set_option maxRecDepth 100000
set_option maxHeartbeats 1000000
def one1 (q1 k1:Nat)(q:Nat):Nat:=if q=q1 then k1 else q
theorem opB_call1 {P:Program} {sl:SL} {bx:Boxes} {f:FuncId} {fo:Operand} {args:List Operand} {tys:List TypeId} {dst:Option Nat} {caps args':List SV} {r:SV} {q1 sz1:Nat} {rows1:List (List D)} (k1:Nat)
  (hf:opnd sl fo=.clo f caps) (hargs:args.map (opnd sl)++caps=args') (hcl:SV.closedAll args'=true) (hc:CallB P f args' [] r [(q1,.rows sz1 rows1)]) (hr:r.only [q1]=true)
  (h1:k1≤999999) (f1:hasBx k1 bx=false) :
  OpB P sl bx dst (.call ⟨.value fo,args.toArray,tys.toArray⟩) (r.ren (one1 q1 k1)) ((k1,.rows sz1 rows1)::bx) [k1]:=by
 subst hargs
 intro o ho _ C S w β a hi ha
 have hf1:=ha fo (mC ho)
 rw [hf] at hf1
 generalize hfv:a.eval fo=v at hf1
 cases hf1 with
 | clo _ _ cs g1 g2 =>
  have hall:RepL S w β (args.map (opnd sl)++caps) (args.map a.eval++cs):=(RepL.evals _ fun x hx=>ha x (mo ho (by simp [Op.operands,Call.operands];exact .inr hx))).append ⟨g1,g2⟩
  have hin:Inv ⟨w,S,fun _=>False,fun _ _=>False,C.G⟩ S w β []:=hi.begin hi.Slt (fun _ h=>h)
  have hcall:=hc.2 ⟨w,S,fun _=>False,fun _ _=>False,C.G⟩ β _ hin hall
  refine Or.inl ?_
  unfold Oper.wp
  rw [run_enter hc.1 ho hfv,Oper.upon_enter]
  have hargsEq:(args.toArray.map a.eval)++(⟨cs⟩:Array Value)=⟨args.map a.eval++cs⟩:=by apply Array.ext';simp
  rw [hargsEq]
  refine hcall.mono ?_
  rintro e w' ⟨v,S',β',rfl,hI,hv⟩
  have hsz:w.heap.size≤w'.heap.size:=hI.size
  have hSn:∀ b,S' b→S b∨w.heap.size≤b:=fun b hb=>by
   rcases hI.Snew b hb with h | h | h
   ·exact .inl h
   ·exact h.elim
   ·exact .inr h
  have e:SExt S w S' w':=⟨hI.S0sub,fun b hb=>hI.kept b (hi.Slt b hb) id⟩
  have u1:upd β k1 (β' q1) k1 = β' q1:=upd_same ..
  have u3:∀ j,j≠k1→upd β k1 (β' q1) j = β j:=fun j a=>by rw [upd_ne a]
  have m1:(q1,BoxC.rows sz1 rows1)∈[(q1,BoxC.rows sz1 rows1)]:=by simp
  have hnew:∀ b,(β' q1).base=some b→¬ S' b∧b < w'.heap.size∧w.heap.size≤b:=fun b hb=>by
   obtain⟨p1,p2,p3⟩:=hI.priv q1 _ m1 b hb
   exact⟨p1,p2,p3.resolve_left id⟩
  have hold:∀ k c,(k,c)∈bx→k≠k1∧(∀ j,c.has j=true→j≠k1):=fun k c hm=>by
   obtain⟨a1,a2⟩:=hasBx_mem f1 k c hm
   exact⟨a1,fun j hj he=>by subst he;rw [a2] at hj;simp at hj⟩
  have hcase:∀ k c,(k,c)∈(k1,BoxC.rows sz1 rows1)::bx→(k=k1∧c=.rows sz1 rows1)∨(k,c)∈bx:=fun k c hm=>by
   simp only [List.mem_cons,Prod.mk.injEq] at hm
   exact hm
  refine⟨v,S',upd β k1 (β' q1),rfl,?_,e,hv.ren fun k hkk=>?_,fun j hj=>?_⟩
  ·refine hi.step e hSn hI.Slt (fun b hb _=>hI.kept b hb id) hI.os hI.tape hI.output hsz ?_ ?_ (fun j hj=>u3 j (by omega)) ?_
   ·intro k c hm
    rcases hcase k c hm with ⟨rfl,rfl⟩ | hm
    ·rw [u1]
     exact⟨BoxOK.ext (c:=.rows sz1 rows1) (hI.box q1 _ m1) (SExt.refl _ _) (fun _ _=>rfl) (by simp [BoxC.has]),fun b hb=>⟨(hnew b hb).1,(hnew b hb).2.1,.inl (hnew b hb).2.2⟩⟩
    ·obtain⟨a1,a3⟩:=hold k c hm
     rw [u3 k a1]
     refine⟨(hi.box k c hm).ext e (fun b hb=>hI.kept b (hi.priv k c hm b hb).2.1 id) (fun j hj=>u3 j (a3 j hj)),fun b hb=>⟨fun hs=>?_,Nat.lt_of_lt_of_le (hi.priv k c hm b hb).2.1 hsz,.inr ⟨k,c,hm,hb⟩⟩⟩
     rcases hSn b hs with h | h
     ·exact (hi.priv k c hm b hb).1 h
     ·have:=(hi.priv k c hm b hb).2.1;omega
   ·intro k c k' c' hm hm' b hb hb'
    have low:∀ k c,(k,c)∈bx→(upd β k1 (β' q1) k).base=some b→b < w.heap.size:=fun k c hm hb=>by
     rw [u3 k (hold k c hm).1] at hb
     exact (hi.priv k c hm b hb).2.1
    rcases hcase k c hm with ⟨rfl,rfl⟩ | hm
    ·rw [u1] at hb
     rcases hcase k' c' hm' with ⟨rfl,rfl⟩ | hm'
     ·exact⟨rfl,rfl⟩
     ·have:=low _ _ hm' hb';have:=(hnew b hb).2.2;omega
    ·have hlt:=low _ _ hm hb
     rcases hcase k' c' hm' with ⟨rfl,rfl⟩ | hm'
     ·rw [u1] at hb';have:=(hnew b hb').2.2;omega
     ·rw [u3 k (hold k c hm).1] at hb
      rw [u3 k' (hold k' c' hm').1] at hb'
      exact hi.inj k c k' c' hm hm' b hb hb'
   ·intro k Y st hm
    rcases hcase k _ hm with ⟨_,h⟩ | hm
    ·cases h
    ·exact hm
  ·have:=SV.only_has hr hkk
   simp only [List.mem_cons,List.not_mem_nil,or_false] at this
   subst this
   simp only [one1,if_true];exact u1
  ·simp only [List.mem_cons,List.not_mem_nil,or_false] at hj
   exact u3 j hj
theorem declT_mem {p:Prog} {nm:Str} {d:Decl} (h:declT p nm=some d):d∈p.decls:=List.mem_of_find?_eq_some h
def eqL {α:Type} (p:α→α→Bool):List α→List α→Bool
 | [],[]=>true
 | x::xs,y::ys=>p x y && eqL p xs ys
 | _,_=>false
theorem eqL_len {α:Type} {p:α→α→Bool}:∀ {l m:List α},eqL p l m=true→l.length=m.length
 | [],[],_=>rfl
 | x::xs,y::ys,h=>by
  rw [eqL,Bool.and_eq_true] at h
  simp [eqL_len h.2]
 | [],_::_,h=>by simp [eqL] at h
 | _::_,[],h=>by simp [eqL] at h
def sameFo (a b:Formal):Bool:=decide (a.name=b.name) && sameT a.bound b.bound
def samePa (a b:Param):Bool:=decide (a.name=b.name) && sameT a.type b.type
def sameSi (a b:Sig):Bool:=decide (a.name=b.name) && eqL sameFo a.formals b.formals && eqL samePa a.params b.params && sameT a.result b.result
theorem Ty.Sm.subst {vars:List Str} {args:List Ty} (ha:∀ u,u∈args→u.Sm):∀ t:Ty,t.Sm→(t.subst vars args).Sm:=by
 intro t
 induction t using Ty.induct with
 | h t ih =>
 intro h
 rw [subst_eq]
 split
 ·rename_i hc
  have hlt:(indexS t.name vars 0).toNat < args.length:=by omega
  rw [List.getElem?_eq_getElem hlt,Option.getD_some]
  have:=ha _ (List.getElem_mem hlt)
  exact .mk _ _ _ this.name this.len this.arg
 ·refine .mk _ _ _ h.name (by rw [List.length_map];exact h.len) fun u hu=>?_
  obtain⟨x,hx,rfl⟩:=List.mem_map.1 hu
  exact ih x hx (h.arg x hx)
theorem mem_mapIdx {α β:Type} {f:Nat→α→β} {l:List α} {y:β} (h:y∈l.mapIdx f):∃ i x,l[i]? = some x∧i < l.length∧y=f i x:=by
 obtain⟨i,hi⟩:=List.getElem?_of_mem h
 rw [List.getElem?_mapIdx,Option.map_eq_some_iff] at hi
 obtain⟨x,hx,rfl⟩:=hi
 exact⟨i,x,hx,(List.getElem?_eq_some_iff.1 hx).1,rfl⟩
theorem Sig.Sm.canon {s:Sig} (h:s.Sm):s.canon.Sm:=by
 have hs:=localTs_Sm _ h.formals.1
 refine⟨h.name,⟨by simp only [Sig.canon,canF_len];exact h.formals.1,fun f hf=>?_⟩,⟨by simp only [Sig.canon,canP_len];exact h.params.1,fun f hf=>?_⟩,Ty.Sm.subst hs _ h.result⟩
 ·obtain⟨i,x,hx,hi,rfl⟩:=mem_mapIdx hf
  have hm:=h.formals.2 x (List.mem_of_getElem? hx)
  refine⟨?_,Ty.Sm.subst hs _ hm.bound⟩
  simp only [hi,if_true]
  exact Nat.le_trans (localS_len i (by have:=h.formals.1;omega)) (by decide)
 ·obtain⟨i,x,hx,hi,rfl⟩:=mem_mapIdx hf
  have hm:=h.params.2 x (List.mem_of_getElem? hx)
  refine⟨?_,Ty.Sm.subst hs _ hm.type⟩
  simp only [hi,if_true]
  decide
theorem Sig.Sm.subst {vars:List Str} {args:List Ty} (ha:∀ u,u∈args→u.Sm) {s:Sig} (h:s.Sm):(s.subst vars args).Sm:=by
 refine⟨h.name,⟨by simp only [Sig.subst,List.length_map];exact h.formals.1,fun f hf=>?_⟩,⟨by simp only [Sig.subst,List.length_map];exact h.params.1,fun f hf=>?_⟩,Ty.Sm.subst ha _ h.result⟩
 ·obtain⟨x,hx,rfl⟩:=List.mem_map.1 hf
  exact⟨(h.formals.2 x hx).name,Ty.Sm.subst ha _ (h.formals.2 x hx).bound⟩
 ·obtain⟨x,hx,rfl⟩:=List.mem_map.1 hf
  exact⟨(h.params.2 x hx).name,Ty.Sm.subst ha _ (h.params.2 x hx).type⟩
theorem ok_sameFormal (a b:Formal)(h:a.Sm):CallOK prog 339 [foV a,foV b] (boolV (sameFo a b)):=by
 have hs:=ok_TSame a.bound b.bound h.bound
 unfold sameFo
 refine cB func339 ?_
 refine sR [0,1,2,3,4] ?_
 by_cases hn:a.name=b.name
 ·(refine sQ [0,1,2,3,4] fun K z=>?_;refine ev1 hn ?_;refine cc hs ?_;apply z;clear z K)
  rw [decide_eq_true hn,Bool.true_and]
  exact aR
 ·refine sR1 hn [0,1,2,3,4] ?_
  rw [decide_eq_false hn,Bool.false_and]
  exact aR
theorem ok_sameParam (a b:Param)(h:a.Sm):CallOK prog 341 [paV a,paV b] (boolV (samePa a b)):=by
 have hs:=ok_TSame a.type b.type h.type
 unfold samePa
 refine cB func341 ?_
 refine sR [0,1,2,3,4] ?_
 by_cases hn:a.name=b.name
 ·(refine sQ [0,1,2,3,4] fun K z=>?_;refine ev1 hn ?_;refine cc hs ?_;apply z;clear z K)
  rw [decide_eq_true hn,Bool.true_and]
  exact aR
 ·refine sR1 hn [0,1,2,3,4] ?_
  rw [decide_eq_false hn,Bool.false_and]
  exact aR
abbrev q1P:List Nat:=[0,1,2,6,7,8,9,14,15,16,17,18,30]
theorem ok_EqualFuncF (f:FuncId)(p:Formal→Formal→Bool)(l m:List Formal)(hl:l.length≤sm)(hf:∀ x,x∈l→∀ y,CallOK prog f [foV x,foV y] (boolV (p x y))) :
  CallOK prog 338 [.d (.slice (foR l)),.d (.slice (foR m)),.clo f []] (boolV (eqL p l m)):=by
 refine cB func338 ?_
 refine sR q1P ?_
 refine kR q1P fun K1 hK1=>?_
 refine AWp.ifRetK rfl hK1 (fun hc=>?_) (fun hc=>?_)
 ·refine sR q1P ?_
  have:eqL p l m=false:=by
   cases h:eqL p l m with
   | false=>rfl
   | true=>have:=eqL_len h;simp [this] at hc
  rw [this]
  exact aR
 clear hK1 K1
 have hlm:l.length=m.length:=by
  have:(l.length:Int)=m.length:=by simpa using hc
  omega
 refine kR q1P fun K1 hK1=>?_
 refine AWp.block (AWp.forIdx l (X:=Unit) (fun j _=>[(1,.d (.slice (foR m))),(2,.clo f []),(15,.d (.slice (foR l))),(16,intV l.length),(17,intV j)]) (fun _ _=>[])
  (fun j _=>eqL p (l.drop j) (m.drop j)=eqL p l m) () (by simp) sS sB ?_ ?_)
 ·intro _ hI
  refine sR1 Int.lt_irrefl q1P ?_
  refine AWp.stop rfl ?_
  simp only [thenA,blockA,if_true]
  refine hK1 _ _ ?_
  refine sR q1P ?_
  rw [List.drop_length,hlm,List.drop_length] at hI
  rw [← hI]
  exact aR
 ·intro j _ d hd hmem dp tk hlt hI
  obtain⟨e,he,hdm⟩:=drop_get (l:=m) (j:=j) (by omega)
  rw [dp,hdm,eqL] at hI
  refine sR1 hlt q1P ?_
  refine AWp.goOn rfl ?_
  refine sK fun K2 hK2=>?_
  refine AWp.block ?_
  (refine sV q1P fun K z=>?_;refine ci (foR_get hd) ?_;apply z;clear z K)
  (refine sV q1P fun K z=>?_;refine ci (foR_get he) ?_;apply z;clear z K)
  refine sC (hf d hmem e) q1P ?_
  refine AWp.cond rfl (fun hc=>?_) (fun hc=>?_)
  ·refine sR q1P ?_
   simp only [Bool.not_eq_true'] at hc
   rw [hc,Bool.false_and] at hI
   rw [← hI]
   exact aR
  simp only [Bool.not_eq_false'] at hc
  rw [hc,Bool.true_and] at hI
  refine AWp.skip (hK2 _ _ ?_)
  clear hK2 K2
  refine lT q1P ?_
  exact⟨(),hI,sS,sB⟩
abbrev q2P:List Nat:=[0,1,2,6,7,8,9,14,15,16,17,18,30]
theorem ok_EqualFuncP (f:FuncId)(p:Param→Param→Bool)(l m:List Param)(hl:l.length≤sm)(hf:∀ x,x∈l→∀ y,CallOK prog f [paV x,paV y] (boolV (p x y))) :
  CallOK prog 340 [.d (.slice (paR l)),.d (.slice (paR m)),.clo f []] (boolV (eqL p l m)):=by
 refine cB func340 ?_
 refine sR q2P ?_
 refine kR q2P fun K1 hK1=>?_
 refine AWp.ifRetK rfl hK1 (fun hc=>?_) (fun hc=>?_)
 ·refine sR q2P ?_
  have:eqL p l m=false:=by
   cases h:eqL p l m with
   | false=>rfl
   | true=>have:=eqL_len h;simp [this] at hc
  rw [this]
  exact aR
 clear hK1 K1
 have hlm:l.length=m.length:=by
  have:(l.length:Int)=m.length:=by simpa using hc
  omega
 refine kR q2P fun K1 hK1=>?_
 refine AWp.block (AWp.forIdx l (X:=Unit) (fun j _=>[(1,.d (.slice (paR m))),(2,.clo f []),(15,.d (.slice (paR l))),(16,intV l.length),(17,intV j)]) (fun _ _=>[])
  (fun j _=>eqL p (l.drop j) (m.drop j)=eqL p l m) () (by simp) sS sB ?_ ?_)
 ·intro _ hI
  refine sR1 Int.lt_irrefl q2P ?_
  refine AWp.stop rfl ?_
  simp only [thenA,blockA,if_true]
  refine hK1 _ _ ?_
  refine sR q2P ?_
  rw [List.drop_length,hlm,List.drop_length] at hI
  rw [← hI]
  exact aR
 ·intro j _ d hd hmem dp tk hlt hI
  obtain⟨e,he,hdm⟩:=drop_get (l:=m) (j:=j) (by omega)
  rw [dp,hdm,eqL] at hI
  refine sR1 hlt q2P ?_
  refine AWp.goOn rfl ?_
  refine sK fun K2 hK2=>?_
  refine AWp.block ?_
  (refine sV q2P fun K z=>?_;refine ci (paR_get hd) ?_;apply z;clear z K)
  (refine sV q2P fun K z=>?_;refine ci (paR_get he) ?_;apply z;clear z K)
  refine sC (hf d hmem e) q2P ?_
  refine AWp.cond rfl (fun hc=>?_) (fun hc=>?_)
  ·refine sR q2P ?_
   simp only [Bool.not_eq_true'] at hc
   rw [hc,Bool.false_and] at hI
   rw [← hI]
   exact aR
  simp only [Bool.not_eq_false'] at hc
  rw [hc,Bool.true_and] at hI
  refine AWp.skip (hK2 _ _ ?_)
  clear hK2 K2
  refine lT q2P ?_
  exact⟨(),hI,sS,sB⟩
theorem ok_SameSig (a b:Sig)(h:a.Sm):CallOK prog 305 [siV a,siV b] (boolV (sameSi a b)):=by
 have hq:=ok_EqualFuncF 339 sameFo a.formals b.formals h.formals.1 (fun x hx y=>ok_sameFormal x y (h.formals.2 x hx))
 have hp:=ok_EqualFuncP 341 samePa a.params b.params h.params.1 (fun x hx y=>ok_sameParam x y (h.params.2 x hx))
 have hr:=ok_TSame a.result b.result h.result
 unfold sameSi
 refine cB func305 ?_
 refine sR [0,1,2,3,4] ?_
 by_cases hn:a.name=b.name
 ·rcases Bool.eq_false_or_eq_true (eqL sameFo a.formals b.formals) with h3 | h3
  ·rw [h3] at hq
   rcases Bool.eq_false_or_eq_true (eqL samePa a.params b.params) with h4 | h4
   ·rw [h4] at hp
    (refine sQ [0,1,2,3,4] fun K z=>?_;refine ev1 hn ?_;refine cc hq ?_;refine cc hp ?_;refine cc hr ?_;apply z;clear z K)
    rw [decide_eq_true hn,h3,h4,Bool.true_and,Bool.true_and,Bool.true_and]
    exact aR
   ·rw [h4] at hp
    (refine sQ [0,1,2,3,4] fun K z=>?_;refine ev1 hn ?_;refine cc hq ?_;refine cc hp ?_;apply z;clear z K)
    rw [h4,Bool.and_false,Bool.false_and]
    exact aR
  ·rw [h3] at hq
   (refine sQ [0,1,2,3,4] fun K z=>?_;refine ev1 hn ?_;refine cc hq ?_;apply z;clear z K)
   rw [h3,Bool.and_false,Bool.false_and,Bool.false_and]
   exact aR
 ·refine sR1 hn [0,1,2,3,4] ?_
  rw [decide_eq_false hn,Bool.false_and,Bool.false_and,Bool.false_and]
  exact aR
theorem ok_BAlike (a b:Sig)(h:a.Sm)(h2:b.Sm):CallOK prog 266 [siV a,siV b] (boolV (sameSi a.canon b.canon)):=by
 have hs:=ok_SameSig a.canon b.canon h.canon
 refine cB func266 ?_
 refine sR [0,1,2,3,4] ?_
 (refine sG [0,1,2,3,4] [] 3 [] fun K z=>?_;refine ev ?_;refine cc (ok_BCanon a h) ?_;refine cc (ok_BCanon b h2) ?_;refine cc hs ?_;apply z;clear z K)
 exact aR
structure Sig.Lm (s:Sig):Prop where
 formals:s.formals.length≤sm∧∀ f,f∈s.formals→f.bound.Lm
 params:s.params.length≤sm∧∀ f,f∈s.params→f.type.Lm
 result:s.result.Lm
theorem Sig.Sm.lm {s:Sig} (h:s.Sm):s.Lm:=⟨⟨h.formals.1,fun f hf=>(h.formals.2 f hf).bound.lm⟩,⟨h.params.1,fun f hf=>(h.params.2 f hf).type.lm⟩,h.result.lm⟩
abbrev q3P:List Nat:=[0,2,3,4,12]
theorem ok_FewAll (l:List Ty):CallOK prog 6 [tysV l] (boolV (decide (Ty.countL l 0≤200))):=by
 refine CallB.bd (Enters.of func6 rfl (by decide)) fun hbd=>?_
 have hok:=tys_ok hbd.1
 have hlen:=hok.1
 refine cB func6 ?_
 refine sR q3P ?_
 refine sR q3P ?_
 refine kR q3P fun K1 hK1=>?_
 refine AWp.block (AWp.loop (X:=Nat × Int) (fun x=>[(0,tysV l),(3,intV x.2),(4,intV x.1)]) (fun _=>[])
  (fun x=>x.1≤l.length∧0≤x.2∧x.2≤2814749769108∧Ty.countL (l.drop x.1) x.2=Ty.countL l 0) (fun x=>l.length - x.1) (0,0) ?_ ?_ ?_ ?_)
 ·exact⟨by simp,by omega,by omega,rfl⟩
 ·simp [sle,vle,sget]
 ·simp [ble]
 rintro⟨i,m⟩ ⟨hi,hm0,hm1,heq⟩
 simp only at hi hm0 hm1 heq
 have fin:∀ z:Int,z=Ty.countL l 0→∀ sl bx,sget sl 3=intV z→K1 sl bx:=by
  rintro z rfl sl bx hz
  refine hK1 _ _ ?_
  refine AWp.weaken (sl':=[(3,intV (Ty.countL l 0))]) (bx':=[]) (by simp [sle,vle,hz]) (by simp [ble]) ?_
  refine sR q3P ?_
  exact aR
 by_cases hlt:(i:Int) < (l.length:Int)
 ·have hlt':i < l.length:=by omega
  have hx:l[i]? = some l[i]:=List.getElem?_eq_getElem hlt'
  have hmem:l[i]∈l:=List.getElem_mem hlt'
  have dp:l.drop i=l[i]::l.drop (i+1):=List.drop_eq_getElem_cons hlt'
  generalize l[i]=x at *
  rw [dp,Ty.countL] at heq
  refine sK fun K2 hK2=>?_
  by_cases hm:m≤2000
  ·rw [if_pos hm] at heq
   refine sR2 hlt hm q3P ?_
   refine AWp.condT rfl (AWp.skip (hK2 _ _ ?_))
   clear hK2 K2
   refine sK fun K2 hK2=>?_
   refine AWp.block ?_
   (refine lV q3P fun K z=>?_;refine ci (tyR_get hx) ?_;refine⟨_,.inl ⟨_,rfl,ok_Count04 x m hm0 (by unfold cap;omega),rfl⟩,?_⟩;(try refine ev ?_);apply z;clear z K;try simp only [thenA,blockA])
   refine hK2 _ _ ?_
   clear hK2 K2
   (refine lV q3P fun K z=>?_;refine⟨by unfold InR;unfold lim at hlen;omega,?_⟩;(try refine ev ?_);apply z;clear z K;try simp only [thenA,])
   have hb:=Ty.count_bd x m (hok.2 x hmem)
   exact⟨(i+1,x.count m),⟨by simp only;omega,by simp only;omega,by simp only;omega,heq⟩,by simp only;omega,by simp [sle,vle,sget],by simp [ble]⟩
  ·rw [if_neg hm] at heq
   refine sR2 hlt hm q3P ?_
   refine AWp.condF rfl (AWp.exit ?_)
   simp only [thenA,blockA,if_true]
   exact fin m heq _ _ rfl
 ·refine kR1 hlt q3P fun K2 hK2=>?_
  refine AWp.condF rfl (AWp.exit ?_)
  simp only [thenA,blockA,if_true]
  rw [List.drop_eq_nil_of_le (by omega),Ty.countL] at heq
  exact fin m heq _ _ rfl
def keyM (nm m:Str)(d:Decl):Bool:=decide (d.kind=3) && decide (d.name=nm) && decide (d.sig.name=m)
def methI (p:Prog)(nm m:Str):Int:=idxF (keyM nm m) p.decls
theorem idxF_cases {α:Type} (q:α→Bool)(l:List α):(idxF q l = -1∧∀ x,x∈l→q x=false)∨∃ (j:Nat)(x:α),idxF q l=j∧l[j]? = some x∧q x=true:=by
 unfold idxF
 cases h:l.findIdx? q with
 | none=>exact .inl ⟨rfl,by simpa [List.findIdx?_eq_none_iff] using h⟩
 | some j =>
  obtain⟨h1,h2,_⟩:=List.findIdx?_eq_some_iff_getElem.1 h
  exact .inr ⟨j,l[j],rfl,List.getElem?_eq_getElem h1,h2⟩
def methP (p:Prog)(x:Ty)(m:Str):Int:=if instB p x 1=true then (match p.decls[(methI p x.name m).toNat]? with
 | some d=>if 0≤methI p x.name m∧d.vars.length=x.args.length then methI p x.name m else -1
 | none=>-1) else -1
def methB (p:Prog)(x:Ty)(d:Decl)(i:Nat):Bool:=decide (d.kind=3) && decide (d.name=x.name) && decide (methP p x d.sig.name=(i:Int))
def methL (p:Prog)(x:Ty)(j:Nat):List Sig:=((p.decls.take j).zipIdx.filter fun di=>methB p x di.1 di.2).map fun di=>di.1.sig.canon.subst di.1.vars x.args
theorem methL_succ {p:Prog} {x:Ty} {j:Nat} {d:Decl} (hj:j < p.decls.length)(ht:p.decls.take (j+1)=p.decls.take j++[d]):methL p x (j+1)=methL p x j++if methB p x d j=true then [d.sig.canon.subst d.vars x.args] else []:=by
 unfold methL
 have hlen:(p.decls.take j).length=j:=by rw [List.length_take];omega
 rw [ht,List.zipIdx_append,List.filter_append,List.map_append,hlen]
 congr 1
 simp only [List.zipIdx_cons,List.zipIdx_nil,Nat.zero_add,List.filter_cons,List.filter_nil]
 split <;> simp_all
theorem methL_len (p:Prog)(x:Ty)(j:Nat):(methL p x j).length≤j:=by
 unfold methL
 rw [List.length_map]
 refine Nat.le_trans (List.length_filter_le ..) ?_
 rw [List.length_zipIdx,List.length_take];omega
theorem firstK_idx (l:List Lit):∀ (ds:List Decl)(i:Nat),firstK l ds i=(ds.findIdx? fun d=>match keyOfD d with | some k'=>decide (l=k'.lits) | none=>false).map fun j=>D.int .i64 ((i+j:Nat):Int)
 | [],i=>rfl
 | d::ds,i=>by
  rw [firstK,List.findIdx?_cons,firstK_idx l ds (i+1)]
  have hm:∀ o:Option Nat,(o.map fun j=>D.int .i64 ((i+1+j:Nat):Int))=(o.map (·+1)).map fun j=>D.int .i64 ((i+j:Nat):Int):=fun o=>by
   cases o with
   | none=>rfl
   | some j=>simp only [Option.map_some,Option.some.injEq,D.int.injEq,true_and];congr 1;omega
  cases hk:keyOfD d with
  | none=>simp only [if_neg (show ¬ (false=true) by decide)];exact hm _
  | some k =>
   simp only
   by_cases h:l=k.lits
   ·simp [h]
   ·simp only [h,if_false,decide_false];exact hm _
theorem keyM_eq (nm m:Str):(fun d:Decl=>match keyOfD d with | some k'=>decide ((tkey nm (46::m)).lits=k'.lits) | none=>false)=keyM nm m:=by
 funext d
 unfold keyOfD keyM
 by_cases h1:d.kind=1∨d.kind=2
 ·rw [if_pos h1]
  have h3:¬ d.kind=3:=by omega
  simp [h3,tkey,D.lits,D.lit]
 ·rw [if_neg h1]
  by_cases h4:d.kind=3
  ·rw [if_pos h4]
   have e:((tkey nm (46::m)).lits=(tkey d.name (46::d.sig.name)).lits)↔(d.name=nm∧d.sig.name=m):=by
    simp only [tkey,D.lits,D.lit,List.map_cons,List.map_nil,List.cons.injEq,Lit.string.injEq,and_true,true_and]
    exact⟨fun h=>⟨h.1.symm,h.2.symm⟩,fun h=>⟨h.1.symm,h.2.symm⟩⟩
   simp only [h4,decide_true,Bool.true_and,e,Bool.decide_and]
  ·rw [if_neg h4];simp [h4]
theorem tab_meth (p:Prog)(nm m:Str):(methI p nm m = -1∧kfind (tkey nm (46::m)).lits (tabM p) 0=none)∨∃ (j q:Nat),methI p nm m=j∧kfind (tkey nm (46::m)).lits (tabM p) 0=some (q,.int .i64 j):=by
 have hkv:kval (tkey nm (46::m)).lits (tabM p)=firstK (tkey nm (46::m)).lits p.decls 0:=by unfold tabM;rw [kval_tabF];rfl
 rw [firstK_idx,keyM_eq] at hkv
 unfold kval at hkv
 unfold methI idxF
 cases hi:p.decls.findIdx? (keyM nm m) with
 | none =>
  rw [hi] at hkv
  exact .inl ⟨rfl,by simpa using hkv⟩
 | some j =>
  rw [hi] at hkv
  refine .inr ⟨j,?_⟩
  cases hf:kfind (tkey nm (46::m)).lits (tabM p) 0 with
  | none=>rw [hf] at hkv;simp at hkv
  | some qd =>
   obtain⟨q,d⟩:=qd
   rw [hf] at hkv
   simp only [Option.map_some,Option.some.injEq,Nat.zero_add] at hkv
   exact⟨q,rfl,by rw [hkv]⟩
theorem methB_eq {p:Prog} {x:Ty} {d:Decl} {j:Nat} (hi:instB p x 1=true)(hd:p.decls[j]? = some d):methB p x d j=(decide (methI p x.name d.sig.name=(j:Int)) && decide (d.vars.length=x.args.length)):=by
 unfold methB methP
 rw [if_pos hi]
 unfold methI
 rcases idxF_cases (keyM x.name d.sig.name) p.decls with ⟨h1,_⟩ | ⟨k,e,h1,h2,h3⟩
 ·rw [h1]
  have h0:¬ (-1:Int)=(j:Int):=by omega
  have:(match p.decls[(-1:Int).toNat]? with
    | some d=>if 0≤(-1:Int)∧d.vars.length=x.args.length then (-1:Int) else -1
    | none=>-1) = -1:=by
    cases p.decls[(-1:Int).toNat]? with
    | none=>rfl
    | some d=>simp
  rw [this]
  simp [h0]
 ·rw [h1]
  simp only [Int.toNat_natCast,h2]
  by_cases hk:k=j
  ·subst hk
   rw [h2] at hd
   simp only [Option.some.injEq] at hd;subst hd
   simp only [keyM,Bool.and_eq_true,decide_eq_true_eq] at h3
   by_cases hv:e.vars.length=x.args.length
   ·simp [h3,hv]
   ·have h0:¬ (-1:Int)=(k:Int):=by omega
    simp [hv,h0]
  ·have h0:¬ (k:Int)=(j:Int):=by omega
   by_cases hv:e.vars.length=x.args.length
   ·simp [hv,h0]
   ·have h1:¬ (-1:Int)=(j:Int):=by omega
    simp [hv,h0,h1]
theorem methL_nil {p:Prog} {x:Ty} (hi:¬ instB p x 1=true)(j:Nat):methL p x j=[]:=by
 unfold methL
 rw [List.map_eq_nil_iff,List.filter_eq_nil_iff]
 rintro⟨d,i⟩ _
 simp only [methB,methP,if_neg hi]
 have h0:¬ (-1:Int)=(i:Int):=by omega
 simp [h0]
abbrev q1Q:List Nat:=[0,1,3,4,6,7,8,9,10,11,19,24,25,26,27,60]
theorem ok_TMethods (p:Prog)(h:p.Sm)(x:Ty)(hx:x.Sm):CallB prog 196 [.dptr (tabC p) 0,tyV x] [] (.acc 7) [(7,.rows 7 (siR (methL p x p.decls.length)))]:=by
 have hl:=h.decls.1
 have hin:=ok_instance p h x 1 (by decide)
 generalize (declT p x.name).getD default=dd at *
 refine bB func196 ?_
 refine sR q1Q ?_
 rcases Bool.eq_false_or_eq_true (instB p x 1) with hi | hi
 ·rw [hi] at hin
  refine kC hin q1Q fun K1 hK1=>?_
  refine sR q1Q ?_
  refine kI hK1 ?_
  clear hK1 K1
  refine sR q1Q ?_
  refine AWp.promote 7 7 7 rfl ?_
  refine sK fun K1 hK1=>?_
  (refine sQ q1Q fun K z=>?_;simp -implicitDefEqProofs only [EV,Nat.reduceEqDiff,Nat.reduceBEq,reduceCtorEq,TF38,TF43,TF155,tabC];apply z;clear z K)
  refine AWp.block (AWp.forIdx p.decls (X:=Unit) (fun j _=>[(0,.dptr (tabC p) 0),(3,.box 3 0),(7,.acc 7),(24,.d (.slice (deR p.decls))),(25,intV p.decls.length),(26,intV j)]) (fun j _=>[(3,.cells ((tyC x).map .d)),(7,.rows 7 (siR (methL p x j)))])
   (fun j _=>True) () trivial (by simp [sle,vle,sget,tabC,prC]) (by simp [ble,bget,methL,siR,tyC]) ?_ ?_)
  ·intro _ _
   refine sR1 Int.lt_irrefl q1Q ?_
   refine AWp.stop rfl ?_
   simp only [thenA,blockA,if_true]
   refine hK1 _ _ ?_
   refine sR q1Q ?_
   exact AWp.ret ⟨_,by rw [results196];rfl,.inl rfl,by simp [ble,bget]⟩
  ·intro j _ d hd hmem dp tk hlt hI
   have hlen:=methL_len p x j
   have hsucc:=methL_succ (x:=x) (by omega) tk
   have hdm:=h.decls.2 d hmem
   have hb:=methB_eq hi hd
   refine sR1 hlt q1Q ?_
   refine AWp.goOn rfl ?_
   refine sK fun K2 hK2=>?_
   refine AWp.block ?_
   (refine sV q1Q fun K z=>?_;refine ci (deR_get hd) ?_;apply z;clear z K)
   have hnm:=hdm.sig.name
   have hk:=key_two two79 x.name (46::d.sig.name) (Nat.le_trans hx.name (by decide)) (by simp only [List.length_cons];unfold sm lim at *;omega)
   have htm:=tab_meth p x.name d.sig.name
   unfold tkey at hk htm
   (refine sG q1Q [] 16 [] fun K z=>?_;simp -implicitDefEqProofs only [EV,Nat.reduceAdd,Nat.reduceEqDiff,Nat.reduceLeDiff,reduceCtorEq,TF9,TF24,TF59,TF61,TF153,TF155,TF157,tabC];refine⟨by unfold sm lim at *;omega,tabM_keys p h,hk,?_⟩;(try simp -implicitDefEqProofs only [EV,forall_const,implies_true,Nat.reduceAdd,Nat.reduceEqDiff,Nat.reduceBEq,Nat.reduceLeDiff,Nat.reduceSub,Nat.reduceMul,Int.reduceEq,Int.reduceLT,Int.reduceLE,Int.reduceSub,Int.reduceAdd,Int.reduceToNat,reduceCtorEq,Int.reduceNeg,TF3,TF4,TF9,TF22,TF24,TF38,TF43,TF56,TF57,TF59,TF61,TF153,TF155,TF157,tabC,TF99]);apply z;clear z K)
   have fin:∀ sl bx,methB p x d j=false→sget sl 0=.dptr (tabC p) 0→sget sl 3=.box 3 0→sget sl 7=.acc 7→sget sl 24=.d (.slice (deR p.decls))→sget sl 25=intV p.decls.length→sget sl 26=intV j→bget bx 3=some (.cells ((tyC x).map .d))→bget bx 7=some (.rows 7 (siR (methL p x j)))→K2 sl bx:=fun sl bx hk g1 g2 g3 g4 g5 g6 g7 g8=>by
    refine hK2 _ _ ?_
    refine AWp.weaken (sl':=[(0,.dptr (tabC p) 0),(3,.box 3 0),(7,.acc 7),(24,.d (.slice (deR p.decls))),(25,intV p.decls.length),(26,intV j)]) (bx':=[(3,.cells ((tyC x).map .d)),(7,.rows 7 (siR (methL p x j)))]) (by simp [sle,vle,g1,g2,g3,g4,g5,g6]) (by simp [ble,g7,g8]) ?_
    refine lT q1Q ?_
    rw [hk,if_neg (by decide),List.append_nil] at hsucc
    exact⟨(),trivial,(by simp [sle,vle,sget,tabC,prC]),by simp [ble,bget,hsucc,tyC]⟩
   rcases htm with ⟨m1,m2⟩ | ⟨k,q,m1,m2⟩
   ·have h0:¬ (-1:Int)=(j:Int):=by omega
    simp only [lookV,m2,Option.isSome_none]
    refine sR q1Q ?_
    refine AWp.condF rfl (AWp.skip (fin _ _ (by rw [hb,m1];simp [h0]) rfl rfl rfl rfl rfl rfl rfl rfl))
   ·simp only [lookV,m2,ofD,Option.isSome_some]
    by_cases hkj:(k:Int)=(j:Int)
    ·by_cases hv:d.vars.length=x.args.length
     ·have hv':(d.vars.length:Int)=x.args.length:=by omega
      refine sR2 hkj hv' q1Q ?_
      refine AWp.condT rfl ?_
      have hk:methB p x d j=true:=by rw [hb,m1];simp [hkj,hv]
      rw [hk,if_pos rfl] at hsucc
      (refine lG q1Q [] 10 [] fun K z=>?_;refine ev ?_;refine cc (ok_BCanon d.sig hdm.sig) ?_;refine cc (ok_BSubst d.vars x.args hx.arg _ hdm.sig.canon) ?_;refine⟨by simp,by unfold lim sm at *;omega,?_⟩;(try refine ev ?_);apply z;clear z K;try simp only [thenA,blockA])
      refine hK2 _ _ ?_
      clear hK2 K2 fin
      refine lT q1Q ?_
      exact⟨(),trivial,(by simp [sle,vle,sget,tabC,prC]),by simp [ble,bget,hsucc,siR,siC,tyC]⟩
     ·have hv':¬ (d.vars.length:Int)=x.args.length:=by omega
      refine sR2 hkj hv' q1Q ?_
      refine AWp.condF rfl (AWp.skip (fin _ _ (by rw [hb,m1];simp [hv]) rfl rfl rfl rfl rfl rfl rfl rfl))
    ·refine sR1 hkj q1Q ?_
     refine AWp.condF rfl (AWp.skip (fin _ _ (by rw [hb,m1];simp [hkj]) rfl rfl rfl rfl rfl rfl rfl rfl))
 ·rw [hi] at hin
  refine kC hin q1Q fun K1 hK1=>?_
  refine sR q1Q ?_
  refine tI ?_
  refine sR q1Q ?_
  rw [methL_nil (by rw [hi];decide)]
  refine AWp.promote 7 7 4 rfl ?_
  exact AWp.ret ⟨_,by rw [results196];rfl,.inl rfl,by simp [ble,bget,siR]⟩
def nmD (l:List Str):List (D × D):=l.map fun s=>(.str s,.bool true)
def addN (l:List Str)(s:Str):List Str:=if s∈l then l else l++[s]
theorem kfind_nmD (s:Str):∀ (l:List Str)(i:Nat),(s∈l→∃ j,l[j]? = some s∧kfind (D.str s).lits (nmD l) i=some (i+j,.bool true))∧(s ∉ l→kfind (D.str s).lits (nmD l) i=none)
 | [],i=>by simp [nmD,kfind]
 | x::l,i=>by
  have ih:=kfind_nmD s l (i+1)
  have he:nmD (x::l)=(.str x,.bool true)::nmD l:=rfl
  rw [he]
  simp only [kfind]
  by_cases hx:s=x
  ·subst hx
   refine⟨fun _=>⟨0,rfl,by simp⟩,fun h=>absurd (List.mem_cons_self ..) h⟩
  ·have hne:¬ (D.str s).lits=(D.str x).lits:=by simp [D.lits,D.lit,hx]
   rw [if_neg hne]
   refine⟨fun h=>?_,fun h=>ih.2 fun h'=>h (by simp [h'])⟩
   obtain⟨j,h1,h2⟩:=ih.1 ((List.mem_cons.1 h).resolve_left hx)
   exact⟨j+1,by simpa using h1,by rw [h2];congr 2;omega⟩
theorem kput_nmD (s:Str)(l:List Str):kput (.str s) (.bool true) (nmD l)=nmD (addN l s):=by
 unfold kput addN
 by_cases h:s∈l
 ·obtain⟨j,h1,h2⟩:=(kfind_nmD s l 0).1 h
  rw [h2,if_pos h]
  have hj:=(List.getElem?_eq_some_iff.1 h1).1
  have hjs:l[j]=s:=(List.getElem?_eq_some_iff.1 h1).2
  simp only [Nat.zero_add]
  apply List.ext_getElem?
  intro k
  by_cases hk:k=j
  ·subst hk
   rw [List.getElem?_set_self (by simpa [nmD] using hj)]
   simp [nmD,h1]
  ·rw [List.getElem?_set_ne (by omega)]
 ·rw [(kfind_nmD s l 0).2 h,if_neg h]
  simp [nmD]
theorem look_nmD (s:Str)(l:List Str):lookV (.str s) (nmD l) (.d (.bool false))=boolV (decide (s∈l)):=by
 unfold lookV
 by_cases h:s∈l
 ·obtain⟨j,h1,h2⟩:=(kfind_nmD s l 0).1 h
  rw [h2];simp [ofD,h]
 ·rw [(kfind_nmD s l 0).2 h];simp [h]
theorem mem_addN {l:List Str} {s x:Str}:x∈addN l s↔x=s∨x∈l:=by
 unfold addN
 split
 ·constructor
  ·exact .inr
  ·rintro (rfl | h)
   ·assumption
   ·exact h
 ·simp [or_comm]
theorem keyS (s:Str)(h:s.length≤lim):KeyAt prog 9 (.str s):=by
 have hu:prog.underlying 9=some .string:=TF9.2.2.2.2.1
 refine⟨rfl,by simp [D.kv,D.lit,Lit.value,Value.formed,hu],?_⟩
 simp [D.kv,D.lit,D.lits,Lit.value,Value.cells,Program.keyLits,hu,ByteArray.size]
 unfold lim at h;unfold maxLen;omega
theorem nmD_keys {l:List Str} (h:∀ s,s∈l→s.length≤lim):∀ kv,kv∈nmD l→KeyAt prog 9 kv.1:=by
 intro kv hkv
 obtain⟨s,hs,rfl⟩:=List.mem_map.1 hkv
 exact keyS s (h s hs)
def seenN (l:List Sig):List Str:=l.foldl (fun m s=>addN m s.name) []
theorem seenN_append (l:List Sig)(d:Sig):seenN (l++[d])=addN (seenN l) d.name:=by simp [seenN]
theorem mem_foldN (l:List Sig)(s:Str):∀ m:List Str,s∈l.foldl (fun m s=>addN m s.name) m↔s∈m∨∃ y,y∈l∧y.name=s:=by
 induction l with
 | nil=>simp
 | cons a l ih =>
  intro m
  rw [List.foldl_cons,ih,mem_addN]
  simp only [List.mem_cons]
  constructor
  ·rintro ((rfl | h) | ⟨y,h1,h2⟩)
   ·exact .inr ⟨a,.inl rfl,rfl⟩
   ·exact .inl h
   ·exact .inr ⟨y,.inr h1,h2⟩
  ·rintro (h | ⟨y,rfl | h1,h2⟩)
   ·exact .inl (.inr h)
   ·exact .inl (.inl h2.symm)
   ·exact .inr ⟨y,h1,h2⟩
theorem mem_seenN (l:List Sig)(s:Str):s∈seenN l↔∃ y,y∈l∧y.name=s:=by unfold seenN;rw [mem_foldN];simp
def newB (l:List Sig)(s:Sig)(i:Nat):Bool:=decide (∀ y,y∈l.take i→y.name≠s.name)
def specL (vars:List Str)(args:List Ty)(l:List Sig)(j:Nat):List Sig:=((l.take j).zipIdx.filter fun si=>newB l si.1 si.2).map fun si=>si.1.canon.subst vars args
theorem specL_succ {vars:List Str} {args:List Ty} {l:List Sig} {j:Nat} {d:Sig} (hj:j < l.length)(ht:l.take (j+1)=l.take j++[d]):specL vars args l (j+1)=specL vars args l j++if newB l d j=true then [d.canon.subst vars args] else []:=by
 unfold specL
 have hlen:(l.take j).length=j:=by rw [List.length_take];omega
 rw [ht,List.zipIdx_append,List.filter_append,List.map_append,hlen]
 congr 1
 simp only [List.zipIdx_cons,List.zipIdx_nil,Nat.zero_add,List.filter_cons,List.filter_nil]
 split <;> simp_all
theorem specL_len (vars:List Str)(args:List Ty)(l:List Sig)(j:Nat):(specL vars args l j).length≤j:=by
 unfold specL
 rw [List.length_map]
 refine Nat.le_trans (List.length_filter_le ..) ?_
 rw [List.length_zipIdx,List.length_take];omega
def specsD (d:Decl)(x:Ty):List Sig:=specL (fnames d.formals) x.args d.sigs d.sigs.length
def specsT (p:Prog)(x:Ty):List Sig:=if instB p x 2=true then specsD ((declT p x.name).getD default) x else []
theorem inst_decl {p:Prog} {x:Ty} {k:Int} (hk:k≠0)(h:instB p x k=true):∃ d,declT p x.name=some d∧d.kind=k∧d.formals.length=x.args.length:=by
 unfold instB at h
 simp only [Bool.and_eq_true,decide_eq_true_eq] at h
 cases ho:declT p x.name with
 | none=>have:=(kind_none ho).1;omega
 | some d =>
  obtain⟨h1,h2⟩:=kind_some ho
  exact⟨d,rfl,by omega,by rw [← h2];exact h.2⟩
abbrev q1R:List Nat:=[0,1,3,4,5,6,7,8,9,11,19,20,22,23,24,25,32]
theorem ok_TSpecs (p:Prog)(h:p.Sm)(x:Ty)(hx:x.Sm):CallB prog 140 [.dptr (tabC p) 0,tyV x] [] (.tuple [.acc 8,boolV (instB p x 2)]) [(8,.rows 7 (siR (specsT p x)))]:=by
 have hin:=ok_instance p h x 2 (by decide)
 unfold specsT
 rcases Bool.eq_false_or_eq_true (instB p x 2) with hi | hi
 ·obtain⟨dd,hdd,_⟩:=inst_decl (by decide) hi
  rw [hi] at hin
  rw [if_pos hi,hi]
  rw [hdd,Option.getD_some] at hin ⊢
  have hddm:=h.decls.2 dd (declT_mem hdd)
  have hsl:=hddm.sigs.1
  unfold specsD
  refine bB func140 ?_
  refine sR q1R ?_
  refine sC hin q1R ?_
  refine kR q1R fun K1 hK1=>?_
  refine kI hK1 ?_
  clear hK1 K1
  refine sR q1R ?_
  refine AWp.promote 8 7 8 rfl ?_
  refine sR q1R ?_
  refine kR q1R fun K1 hK1=>?_
  refine AWp.block (AWp.forIdx dd.sigs (X:=Unit) (fun j _=>[(3,.box 3 0),(6,.box 6 0),(8,.acc 8),(9,.mp 20),(22,.d (.slice (siR dd.sigs))),(23,intV dd.sigs.length),(24,intV j)])
   (fun j _=>[(3,.cells ((tyC x).map .d)),(6,.cells ((deC dd).map .d)),(8,.rows 7 (siR (specL (fnames dd.formals) x.args dd.sigs j))),(20,.map (nmD (seenN (dd.sigs.take j))))])
   (fun j _=>True) () trivial sS (by simp [ble,bget,specL,siR,deC,tyC,nmD,seenN]) ?_ ?_)
  ·intro _ _
   refine sR1 Int.lt_irrefl q1R ?_
   refine AWp.stop rfl ?_
   simp only [thenA,blockA,if_true]
   refine hK1 _ _ ?_
   refine sR q1R ?_
   exact AWp.ret ⟨_,by rw [results140];rfl,.inl rfl,by simp [ble,bget]⟩
  ·intro j _ d hd hmem dp tk hlt hI
   have hlen:=specL_len (fnames dd.formals) x.args dd.sigs j
   have hsucc:=specL_succ (vars:=fnames dd.formals) (args:=x.args) (by omega) tk
   have hdm:=hddm.sigs.2 d hmem
   have hseen:seenN (dd.sigs.take (j+1))=addN (seenN (dd.sigs.take j)) d.name:=by rw [tk,seenN_append]
   have hk:KeyAt prog 9 (.str d.name):=keyS _ (Nat.le_trans hdm.name (by decide))
   have hks:∀ kv,kv∈nmD (seenN (dd.sigs.take j))→KeyAt prog 9 kv.1:=nmD_keys fun s hs=>by
    obtain⟨y,hy,rfl⟩:=(mem_seenN _ _).1 hs
    exact Nat.le_trans (hddm.sigs.2 y (List.mem_of_mem_take hy)).name (by decide)
   have hnew:newB dd.sigs d j = !decide (d.name∈seenN (dd.sigs.take j)):=by
    unfold newB
    rw [Bool.eq_iff_iff]
    simp [mem_seenN]
   refine sR1 hlt q1R ?_
   refine AWp.goOn rfl ?_
   refine sK fun K2 hK2=>?_
   refine AWp.block ?_
   (refine sV q1R fun K z=>?_;refine ci (siR_get hd) ?_;apply z;clear z K)
   refine sK fun K3 hK3=>?_
   (refine sQ q1R fun K z=>?_;simp -implicitDefEqProofs only [EV,Nat.reduceEqDiff,reduceCtorEq,TF9,TF59,TF266,look_nmD];refine⟨hks,hk,?_⟩;(try simp -implicitDefEqProofs only [EV,forall_const,implies_true,Nat.reduceAdd,Nat.reduceEqDiff,Nat.reduceBEq,Nat.reduceLeDiff,Nat.reduceSub,Nat.reduceMul,Int.reduceEq,Int.reduceLT,Int.reduceLE,Int.reduceSub,Int.reduceAdd,Int.reduceToNat,reduceCtorEq,Int.reduceNeg,TF3,TF4,TF9,TF22,TF24,TF54,TF56,TF59,TF61,TF93,TF266,look_nmD]);apply z;clear z K)
   have fin:∀ sl bx,sget sl 3=.box 3 0→sget sl 6=.box 6 0→sget sl 8=.acc 8→sget sl 9=.mp 20→sget sl 11=.box 11 0→sget sl 22=.d (.slice (siR dd.sigs))→sget sl 23=intV dd.sigs.length→sget sl 24=intV j →
     bget bx 3=some (.cells ((tyC x).map .d))→bget bx 6=some (.cells ((deC dd).map .d))→bget bx 8=some (.rows 7 (siR (specL (fnames dd.formals) x.args dd.sigs (j+1))))→bget bx 11=some (.cells (siL d))→bget bx 20=some (.map (nmD (seenN (dd.sigs.take j))))→K3 sl bx:=fun sl bx g1 g2 g3 g4 g5 g6 g7 g8 g9 g10 g11 g12 g13=>by
    refine hK3 _ _ ?_
    refine AWp.weaken (sl':=[(3,.box 3 0),(6,.box 6 0),(8,.acc 8),(9,.mp 20),(11,.box 11 0),(22,.d (.slice (siR dd.sigs))),(23,intV dd.sigs.length),(24,intV j)])
     (bx':=[(3,.cells ((tyC x).map .d)),(6,.cells ((deC dd).map .d)),(8,.rows 7 (siR (specL (fnames dd.formals) x.args dd.sigs (j+1)))),(11,.cells (siL d)),(20,.map (nmD (seenN (dd.sigs.take j))))]) (by simp [sle,vle,g1,g2,g3,g4,g5,g6,g7,g8]) (by simp [ble,g9,g10,g11,g12,g13]) ?_
    (refine lQ q1R fun K z=>?_;simp -implicitDefEqProofs only [EV,Nat.reduceEqDiff,reduceCtorEq,TF9,TF59,TF266,kput_nmD];refine⟨hks,hk,?_⟩;(try simp -implicitDefEqProofs only [EV,forall_const,implies_true,Nat.reduceAdd,Nat.reduceEqDiff,Nat.reduceBEq,Nat.reduceLeDiff,Nat.reduceSub,Nat.reduceMul,Int.reduceEq,Int.reduceLT,Int.reduceLE,Int.reduceSub,Int.reduceAdd,Int.reduceToNat,reduceCtorEq,Int.reduceNeg,TF3,TF4,TF9,TF22,TF24,TF54,TF56,TF59,TF61,TF93,TF266,kput_nmD]);apply z;clear z K;try simp only [thenA,blockA])
    refine hK2 _ _ ?_
    refine lT q1R ?_
    exact⟨(),trivial,sS,by simp [ble,bget,hseen,tyC,deC]⟩
   by_cases hin:d.name∈seenN (dd.sigs.take j)
   ·rw [decide_eq_true hin]
    refine AWp.condF rfl (AWp.skip (fin _ _ rfl rfl rfl rfl rfl rfl rfl rfl rfl rfl (by rw [hsucc,hnew,decide_eq_true hin];simp [bget]) rfl rfl))
   ·rw [decide_eq_false hin]
    refine AWp.condT rfl ?_
    have hn:newB dd.sigs d j=true:=by rw [hnew,decide_eq_false hin];rfl
    rw [hn,if_pos rfl] at hsucc
    (refine lG q1R [] 10 [] fun K z=>?_;refine ev ?_;refine cc (ok_BCanon d hdm) ?_;refine cc (ok_Names dd.formals hddm.formals.1) ?_;refine cc (ok_BSubst (fnames dd.formals) x.args hx.arg _ hdm.canon) ?_;refine⟨by simp,by unfold lim sm at *;omega,?_⟩;(try refine ev ?_);apply z;clear z K;try simp only [thenA,])
    exact fin _ _ rfl rfl rfl rfl rfl rfl rfl rfl rfl rfl (by rw [hsucc];simp [bget,siR,siC]) rfl rfl
 ·rw [hi] at hin
  rw [if_neg (by rw [hi];decide),hi]
  refine bB func140 ?_
  refine sR q1R ?_
  refine sC hin q1R ?_
  refine kR q1R fun K1 hK1=>?_
  refine tI ?_
  refine sR q1R ?_
  refine AWp.promote 8 7 4 rfl ?_
  exact AWp.ret ⟨_,by rw [results140];rfl,.inl rfl,by simp [ble,bget,siR]⟩
end Go.Abs
