/- slices.Grow of nil, slices.Concat[Formal] of two, bind.Join, table.Formals -/
import Derived.Test.YtbhbfpjnenekpaaGreatDoorJShelf
import Derived.Test.YtbhbfpjnenekpaaGreatDoorJS14
import Derived.Test.YtbhbfpjnenekpaaGreatDoorJS10
import Derived.Test.YtbhbfpjnenekpaaGreatDoorJSB
namespace Go.Abs
set_option linter.unusedSimpArgs false
set_option linter.unusedVariables false
open Go Go.Proofs Tryz
set_option maxRecDepth 100000
set_option maxHeartbeats 1000000
theorem declT_mem {p:Prog} {nm:Str} {d:Decl} (h:declT p nm=some d):d∈p.decls:=List.mem_of_find?_eq_some h
def eqL {α:Type} (p:α→α→Bool):List α→List α→Bool
 | [],[]=>true
 | x::xs,y::ys=>p x y && eqL p xs ys
 | _,_=>false
theorem eqL_len {α:Type} {p:α→α→Bool}:∀ {l m:List α},eqL p l m=true→l.length=m.length
 | [],[],_=>rfl
 | x::xs,y::ys,h=>by
  rw [eqL,Bool.and_eq_true] at h
  simp [eqL_len h.2]
 | [],_::_,h=>by simp [eqL] at h
 | _::_,[],h=>by simp [eqL] at h
def sameFo (a b:Formal):Bool:=decide (a.name=b.name) && sameT a.bound b.bound
def samePa (a b:Param):Bool:=decide (a.name=b.name) && sameT a.type b.type
def sameSi (a b:Sig):Bool:=decide (a.name=b.name) && eqL sameFo a.formals b.formals && eqL samePa a.params b.params && sameT a.result b.result
theorem Ty.Sm.subst {vars:List Str} {args:List Ty} (ha:∀ u,u∈args→u.Sm):∀ t:Ty,t.Sm→(t.subst vars args).Sm:=by
 intro t
 induction t using Ty.induct with
 | h t ih =>
 intro h
 rw [subst_eq]
 split
 ·rename_i hc
  have hlt:(indexS t.name vars 0).toNat < args.length:=by omega
  rw [List.getElem?_eq_getElem hlt,Option.getD_some]
  have:=ha _ (List.getElem_mem hlt)
  exact .mk _ _ _ this.name this.len this.arg
 ·refine .mk _ _ _ h.name (by rw [List.length_map];exact h.len) fun u hu=>?_
  obtain⟨x,hx,rfl⟩:=List.mem_map.1 hu
  exact ih x hx (h.arg x hx)
theorem mem_mapIdx {α β:Type} {f:Nat→α→β} {l:List α} {y:β} (h:y∈l.mapIdx f):∃ i x,l[i]? = some x∧i < l.length∧y=f i x:=by
 obtain⟨i,hi⟩:=List.getElem?_of_mem h
 rw [List.getElem?_mapIdx,Option.map_eq_some_iff] at hi
 obtain⟨x,hx,rfl⟩:=hi
 exact⟨i,x,hx,(List.getElem?_eq_some_iff.1 hx).1,rfl⟩
theorem Sig.Sm.canon {s:Sig} (h:s.Sm):s.canon.Sm:=by
 have hs:=localTs_Sm _ h.formals.1
 refine⟨h.name,⟨by simp only [Sig.canon,canF_len];exact h.formals.1,fun f hf=>?_⟩,⟨by simp only [Sig.canon,canP_len];exact h.params.1,fun f hf=>?_⟩,Ty.Sm.subst hs _ h.result⟩
 ·obtain⟨i,x,hx,hi,rfl⟩:=mem_mapIdx hf
  have hm:=h.formals.2 x (List.mem_of_getElem? hx)
  refine⟨?_,Ty.Sm.subst hs _ hm.bound⟩
  simp only [hi,if_true]
  exact Nat.le_trans (localS_len i (by have:=h.formals.1;omega)) (by decide)
 ·obtain⟨i,x,hx,hi,rfl⟩:=mem_mapIdx hf
  have hm:=h.params.2 x (List.mem_of_getElem? hx)
  refine⟨?_,Ty.Sm.subst hs _ hm.type⟩
  simp only [hi,if_true]
  decide
theorem Sig.Sm.subst {vars:List Str} {args:List Ty} (ha:∀ u,u∈args→u.Sm) {s:Sig} (h:s.Sm):(s.subst vars args).Sm:=by
 refine⟨h.name,⟨by simp only [Sig.subst,List.length_map];exact h.formals.1,fun f hf=>?_⟩,⟨by simp only [Sig.subst,List.length_map];exact h.params.1,fun f hf=>?_⟩,Ty.Sm.subst ha _ h.result⟩
 ·obtain⟨x,hx,rfl⟩:=List.mem_map.1 hf
  exact⟨(h.formals.2 x hx).name,Ty.Sm.subst ha _ (h.formals.2 x hx).bound⟩
 ·obtain⟨x,hx,rfl⟩:=List.mem_map.1 hf
  exact⟨(h.params.2 x hx).name,Ty.Sm.subst ha _ (h.params.2 x hx).type⟩
abbrev q1H:List Nat:=[0,1,2,6,7,12,16,43,71]
theorem ok_RFormals (l m:List Formal)(hl:l.length≤sm)(hs:∀ x,x∈l→x.bound.Lm) :
  CallOK prog 49 [.d (.slice (foR l)),.d (.slice (foR m)),boolV false] (boolV (eqL sameFo l m)):=by
 refine cB func49 ?_
 refine sR q1H ?_
 refine kR q1H fun K1 u1=>?_
 refine AWp.ifRetK rfl u1 (fun hc=>?_) (fun hc=>?_)
 ·refine sR q1H ?_
  have:eqL sameFo l m=false:=by
   cases h:eqL sameFo l m with
   | false=>rfl
   | true=>have:=eqL_len h;simp [this] at hc
  rw [this]
  exact aR
 clear u1 K1
 have hlm:l.length=m.length:=by
  have:(l.length:Int)=m.length:=by simpa using hc
  omega
 refine kR q1H fun K1 u1=>?_
 refine AWp.block (AWp.forIdx l (X:=Unit) (fun j _=>[(0,.d (.slice (foR l))),(1,.d (.slice (foR m))),(2,boolV false),(7,intV j)]) (fun _ _=>[])
  (fun j _=>eqL sameFo (l.drop j) (m.drop j)=eqL sameFo l m) () (by simp) sS (by simp [ble,bget,exC,tyC,foC,paC,siC,deC,prC]) ?_ ?_)
 ·intro _ hI
  refine kR1 Int.lt_irrefl q1H fun K2 u2=>?_
  refine AWp.stopK rfl ?_
  simp only [thenA,blockA,if_true]
  refine u1 _ _ ?_
  refine sR q1H ?_
  rw [List.drop_length,hlm,List.drop_length] at hI
  rw [← hI]
  exact aR
 ·intro j _ d hd hmem dp tk hlt hI
  obtain⟨e,he,hdm⟩:=drop_get (l:=m) (j:=j) (by omega)
  rw [dp,hdm,eqL,sameFo] at hI
  refine kR1 hlt q1H fun K2 u2=>?_
  refine gI u2 ?_
  clear u2 K2
  refine sK fun K2 u2=>?_
  refine AWp.block ?_
  refine sK fun K3 u3=>?_
  by_cases hn:d.name=e.name
  ·have hsm:=ok_RSameL d.bound e.bound (hs d hmem)
   (refine sG q1H [] 22 [] fun K z=>?_;refine ev1 hn ?_;refine⟨by omega,_,foR_get hd,rfl,?_⟩;(try refine ev1 hn ?_);refine⟨by omega,_,foR_get he,rfl,?_⟩;(try refine ev1 hn ?_);refine⟨by omega,_,foR_get hd,rfl,?_⟩;(try refine ev1 hn ?_);refine⟨by omega,_,foR_get he,rfl,?_⟩;(try refine ev1 hn ?_);refine⟨_,.inl ⟨_,rfl,hsm,rfl⟩,?_⟩;(try refine ev1 hn ?_);apply z;clear z K)
   rw [decide_eq_true hn,Bool.true_and] at hI
   refine AWp.ifRetK rfl u3 (fun hc=>?_) (fun hc=>?_)
   ·refine sR q1H ?_
    simp only [Bool.not_eq_true'] at hc
    rw [hc,Bool.false_and] at hI
    rw [← hI]
    exact aR
   clear u3 K3
   simp only [Bool.not_eq_false'] at hc
   rw [hc,Bool.true_and] at hI
   refine dR q1H 24 ?_
   refine AWp.condF rfl (AWp.skip (u2 _ _ ?_))
   clear u2 K2
   (refine lV q1H fun K z=>?_;refine cl ?_;apply z;clear z K;try simp only [thenA,blockA,if_true])
   exact⟨(),hI,sS,(by simp [ble,bget,exC,tyC,foC,paC,siC,deC,prC])⟩
  ·(refine sG q1H [] 22 [] fun K z=>?_;refine ev1 hn ?_;refine⟨by omega,_,foR_get hd,rfl,?_⟩;(try refine ev1 hn ?_);refine⟨by omega,_,foR_get he,rfl,?_⟩;(try refine ev1 hn ?_);apply z;clear z K)
   refine tI ?_
   refine sR q1H ?_
   rw [decide_eq_false hn,Bool.false_and,Bool.false_and] at hI
   rw [← hI]
   exact aR
abbrev q2H:List Nat:=[0,1,2,6,7,12,16,43,71]
theorem ok_RParams (l m:List Param)(hl:l.length≤sm)(hs:∀ x,x∈l→x.type.Lm) :
  CallOK prog 50 [.d (.slice (paR l)),.d (.slice (paR m)),boolV false] (boolV (eqL samePa l m)):=by
 refine cB func50 ?_
 refine sR q2H ?_
 refine kR q2H fun K1 u1=>?_
 refine AWp.ifRetK rfl u1 (fun hc=>?_) (fun hc=>?_)
 ·refine sR q2H ?_
  have:eqL samePa l m=false:=by
   cases h:eqL samePa l m with
   | false=>rfl
   | true=>have:=eqL_len h;simp [this] at hc
  rw [this]
  exact aR
 clear u1 K1
 have hlm:l.length=m.length:=by
  have:(l.length:Int)=m.length:=by simpa using hc
  omega
 refine kR q2H fun K1 u1=>?_
 refine AWp.block (AWp.forIdx l (X:=Unit) (fun j _=>[(0,.d (.slice (paR l))),(1,.d (.slice (paR m))),(2,boolV false),(7,intV j)]) (fun _ _=>[])
  (fun j _=>eqL samePa (l.drop j) (m.drop j)=eqL samePa l m) () (by simp) sS (by simp [ble,bget,exC,tyC,foC,paC,siC,deC,prC]) ?_ ?_)
 ·intro _ hI
  refine kR1 Int.lt_irrefl q2H fun K2 u2=>?_
  refine AWp.stopK rfl ?_
  simp only [thenA,blockA,if_true]
  refine u1 _ _ ?_
  refine sR q2H ?_
  rw [List.drop_length,hlm,List.drop_length] at hI
  rw [← hI]
  exact aR
 ·intro j _ d hd hmem dp tk hlt hI
  obtain⟨e,he,hdm⟩:=drop_get (l:=m) (j:=j) (by omega)
  rw [dp,hdm,eqL,samePa] at hI
  refine kR1 hlt q2H fun K2 u2=>?_
  refine gI u2 ?_
  clear u2 K2
  refine sK fun K2 u2=>?_
  refine AWp.block ?_
  refine sK fun K3 u3=>?_
  by_cases hn:d.name=e.name
  ·have hsm:=ok_RSameL d.type e.type (hs d hmem)
   (refine sG q2H [] 22 [] fun K z=>?_;refine ev1 hn ?_;refine⟨by omega,_,paR_get hd,rfl,?_⟩;(try refine ev1 hn ?_);refine⟨by omega,_,paR_get he,rfl,?_⟩;(try refine ev1 hn ?_);refine⟨by omega,_,paR_get hd,rfl,?_⟩;(try refine ev1 hn ?_);refine⟨by omega,_,paR_get he,rfl,?_⟩;(try refine ev1 hn ?_);refine⟨_,.inl ⟨_,rfl,hsm,rfl⟩,?_⟩;(try refine ev1 hn ?_);apply z;clear z K)
   rw [decide_eq_true hn,Bool.true_and] at hI
   refine AWp.ifRetK rfl u3 (fun hc=>?_) (fun hc=>?_)
   ·refine sR q2H ?_
    simp only [Bool.not_eq_true'] at hc
    rw [hc,Bool.false_and] at hI
    rw [← hI]
    exact aR
   clear u3 K3
   simp only [Bool.not_eq_false'] at hc
   rw [hc,Bool.true_and] at hI
   refine dR q2H 24 ?_
   refine AWp.condF rfl (AWp.skip (u2 _ _ ?_))
   clear u2 K2
   (refine lV q2H fun K z=>?_;refine cl ?_;apply z;clear z K;try simp only [thenA,blockA,if_true])
   exact⟨(),hI,sS,(by simp [ble,bget,exC,tyC,foC,paC,siC,deC,prC])⟩
  ·(refine sG q2H [] 22 [] fun K z=>?_;refine ev1 hn ?_;refine⟨by omega,_,paR_get hd,rfl,?_⟩;(try refine ev1 hn ?_);refine⟨by omega,_,paR_get he,rfl,?_⟩;(try refine ev1 hn ?_);apply z;clear z K)
   refine tI ?_
   refine sR q2H ?_
   rw [decide_eq_false hn,Bool.false_and,Bool.false_and] at hI
   rw [← hI]
   exact aR
structure Sig.Lm (s:Sig):Prop where
 formals:s.formals.length≤sm∧∀ f,f∈s.formals→f.bound.Lm
 params:s.params.length≤sm∧∀ f,f∈s.params→f.type.Lm
 result:s.result.Lm
theorem Sig.Sm.lm {s:Sig} (h:s.Sm):s.Lm:=⟨⟨h.formals.1,fun f hf=>(h.formals.2 f hf).bound.lm⟩,⟨h.params.1,fun f hf=>(h.params.2 f hf).type.lm⟩,h.result.lm⟩
abbrev q3H:List Nat:=[0,1,2,3,4,6,37]
theorem ok_RSigL (a b:Sig)(h:a.Lm):CallOK prog 17 [siV a,siV b,boolV false] (boolV (sameSi a b)):=by
 have hq:=ok_RFormals a.formals b.formals h.formals.1 h.formals.2
 have hp:=ok_RParams a.params b.params h.params.1 h.params.2
 have hr:=ok_RSameL a.result b.result h.result
 unfold sameSi
 refine cB func17 ?_
 refine sR q3H ?_
 refine sK fun K1 u1=>?_
 by_cases hn:a.name=b.name
 ·rcases Bool.eq_false_or_eq_true (eqL sameFo a.formals b.formals) with h3 | h3
  ·rw [h3] at hq
   rcases Bool.eq_false_or_eq_true (eqL samePa a.params b.params) with h4 | h4
   ·rw [h4] at hp
    rcases Bool.eq_false_or_eq_true (sameT a.result b.result) with h5 | h5
    ·rw [h5] at hr
     (refine sQ q3H fun K z=>?_;refine ev1 hn ?_;refine⟨_,.inl ⟨_,rfl,hq,rfl⟩,?_⟩;(try refine ev1 hn ?_);refine⟨_,.inl ⟨_,rfl,hp,rfl⟩,?_⟩;(try refine ev1 hn ?_);refine⟨_,.inl ⟨_,rfl,hr,rfl⟩,?_⟩;(try refine ev1 hn ?_);apply z;clear z K)
     refine kI u1 ?_
     refine sR q3H ?_
     rw [decide_eq_true hn,h3,h4,h5]
     exact aR
    ·rw [h5] at hr
     (refine sQ q3H fun K z=>?_;refine ev1 hn ?_;refine⟨_,.inl ⟨_,rfl,hq,rfl⟩,?_⟩;(try refine ev1 hn ?_);refine⟨_,.inl ⟨_,rfl,hp,rfl⟩,?_⟩;(try refine ev1 hn ?_);refine⟨_,.inl ⟨_,rfl,hr,rfl⟩,?_⟩;(try refine ev1 hn ?_);apply z;clear z K)
     refine tI ?_
     refine sR q3H ?_
     rw [h5,Bool.and_false]
     exact aR
   ·rw [h4] at hp
    (refine sQ q3H fun K z=>?_;refine ev1 hn ?_;refine⟨_,.inl ⟨_,rfl,hq,rfl⟩,?_⟩;(try refine ev1 hn ?_);refine⟨_,.inl ⟨_,rfl,hp,rfl⟩,?_⟩;(try refine ev1 hn ?_);apply z;clear z K)
    refine tI ?_
    refine sR q3H ?_
    rw [h4,Bool.and_false,Bool.false_and]
    exact aR
  ·rw [h3] at hq
   (refine sQ q3H fun K z=>?_;refine ev1 hn ?_;refine⟨_,.inl ⟨_,rfl,hq,rfl⟩,?_⟩;(try refine ev1 hn ?_);apply z;clear z K)
   refine tI ?_
   refine sR q3H ?_
   rw [h3,Bool.and_false,Bool.false_and,Bool.false_and]
   exact aR
 ·refine sR1 hn q3H ?_
  refine tI ?_
  refine sR q3H ?_
  rw [decide_eq_false hn,Bool.false_and,Bool.false_and,Bool.false_and]
  exact aR
theorem ok_RSig (a b:Sig)(h:a.Sm):CallOK prog 17 [siV a,siV b,boolV false] (boolV (sameSi a b)):=ok_RSigL a b h.lm
theorem ok_RAlike (a b:Sig)(h:a.Sm)(h2:b.Sm):CallOK prog 250 [siV a,siV b] (boolV (sameSi a.canon b.canon)):=by
 have hs:=ok_RSig a.canon b.canon h.canon
 refine cB func250 ?_
 refine sR [0,1,2,3,4] ?_
 (refine sG [0,1,2,3,4] [] 3 [] fun K z=>?_;refine ev ?_;refine cc (ok_RCanon a h) ?_;refine cc (ok_RCanon b h2) ?_;refine cc hs ?_;apply z;clear z K)
 exact aR
abbrev q4H:List Nat:=[0,2,3,4,12]
theorem ok_FewAll (l:List Ty):CallOK prog 13 [tysV l] (boolV (decide (Ty.countL l 0≤200))):=by
 refine CallB.bd (Enters.of func13 rfl (by decide)) fun hbd=>?_
 have hok:=tys_ok hbd.1
 have hlen:=hok.1
 refine cB func13 ?_
 refine sR q4H ?_
 refine sR q4H ?_
 refine kR q4H fun K1 u1=>?_
 refine AWp.block (AWp.loop (X:=Nat × Int) (fun x=>[(0,tysV l),(3,intV x.2),(4,intV x.1)]) (fun _=>[])
  (fun x=>x.1≤l.length∧0≤x.2∧x.2≤2814749769108∧Ty.countL (l.drop x.1) x.2=Ty.countL l 0) (fun x=>l.length - x.1) (0,0) ?_ ?_ ?_ ?_)
 ·exact⟨by simp,by omega,by omega,rfl⟩
 ·simp [sle,vle,sget]
 ·simp [ble,bget]
 rintro⟨i,m⟩ ⟨hi,hm0,hm1,heq⟩
 simp only at hi hm0 hm1 heq
 have fin:∀ z:Int,z=Ty.countL l 0→∀ sl bx,sget sl 3=intV z→K1 sl bx:=by
  rintro z rfl sl bx hz
  refine u1 _ _ ?_
  refine AWp.weaken (sl':=[(3,intV (Ty.countL l 0))]) (bx':=[]) (by simp [sle,vle,hz]) (by simp [ble]) ?_
  refine sR q4H ?_
  exact aR
 by_cases hlt:(i:Int) < (l.length:Int)
 ·have hlt':i < l.length:=by omega
  have hx:l[i]? = some l[i]:=List.getElem?_eq_getElem hlt'
  have hmem:l[i]∈l:=List.getElem_mem hlt'
  have dp:l.drop i=l[i]::l.drop (i+1):=List.drop_eq_getElem_cons hlt'
  generalize l[i]=x at *
  rw [dp,Ty.countL] at heq
  refine sK fun K2 u2=>?_
  by_cases hm:m≤2000
  ·rw [if_pos hm] at heq
   refine sR2 hlt hm q4H ?_
   refine AWp.condT rfl (AWp.skip (u2 _ _ ?_))
   clear u2 K2
   refine sK fun K2 u2=>?_
   refine AWp.block ?_
   (refine lV q4H fun K z=>?_;refine ci (tyR_get hx) ?_;refine⟨_,.inl ⟨_,rfl,ok_Count04 x m hm0 (by unfold cap;omega),rfl⟩,?_⟩;(try refine ev ?_);apply z;clear z K;try simp only [thenA,blockA,if_true])
   refine u2 _ _ ?_
   clear u2 K2
   (refine lV q4H fun K z=>?_;refine⟨by unfold InR;unfold lim at hlen;omega,?_⟩;(try refine ev ?_);apply z;clear z K;try simp only [thenA,blockA,if_true])
   have hb:=Ty.count_bd x m (hok.2 x hmem)
   exact⟨(i+1,x.count m),⟨by simp only;omega,by simp only;omega,by simp only;omega,heq⟩,by simp only;omega,by simp [sle,vle,sget],by simp [ble]⟩
  ·rw [if_neg hm] at heq
   refine sR2 hlt hm q4H ?_
   refine AWp.condF rfl (AWp.exit ?_)
   simp only [thenA,blockA,if_true]
   exact fin m heq _ _ rfl
 ·refine kR1 hlt q4H fun K2 u2=>?_
  refine AWp.condF rfl (AWp.exit ?_)
  simp only [thenA,blockA,if_true]
  rw [List.drop_eq_nil_of_le (by omega),Ty.countL] at heq
  exact fin m heq _ _ rfl
def keyM (nm m:Str)(d:Decl):Bool:=decide (d.kind=3) && decide (d.name=nm) && decide (d.sig.name=m)
def methI (p:Prog)(nm m:Str):Int:=idxF (keyM nm m) p.decls
theorem idxF_cases {α:Type} (q:α→Bool)(l:List α):(idxF q l = -1∧∀ x,x∈l→q x=false)∨∃ (j:Nat)(x:α),idxF q l=j∧l[j]? = some x∧q x=true:=by
 unfold idxF
 cases h:l.findIdx? q with
 | none=>exact .inl ⟨rfl,by simpa [List.findIdx?_eq_none_iff] using h⟩
 | some j =>
  obtain⟨h1,h2,_⟩:=List.findIdx?_eq_some_iff_getElem.1 h
  exact .inr ⟨j,l[j],rfl,List.getElem?_eq_getElem h1,h2⟩
abbrev q1I:List Nat:=[0,1,2,3,6,7,12,42]
theorem ok_FindMethod (p:Prog)(hl:p.decls.length≤sm)(nm m:Str):CallOK prog 124 [prV p,strV nm,strV m] (intV (methI p nm m)):=by
 unfold methI
 refine cB func124 ?_
 refine sR q1I ?_
 refine kR q1I fun K1 u1=>?_
 refine AWp.block (AWp.forIdx p.decls (X:=Unit) (fun j _=>[(1,strV nm),(2,strV m),(3,.box 3 0),(7,intV j)]) (fun _ _=>[(3,.cells ((prC p).map .d))])
  (fun j _=>∀ y,y∈p.decls.take j→keyM nm m y=false) () (by simp) sS (by simp [ble,bget,exC,tyC,foC,paC,siC,deC,prC]) ?_ ?_)
 ·intro _ hI
  rw [List.take_length] at hI
  refine kR1 Int.lt_irrefl q1I fun K2 u2=>?_
  refine AWp.stopK rfl ?_
  simp only [thenA,blockA,if_true]
  refine u1 _ _ ?_
  refine sR q1I ?_
  rw [idxF_none hI]
  exact aR
 ·intro j _ d hd hmem dp tk hlt hI
  refine kR1 hlt q1I fun K2 u2=>?_
  refine gI u2 ?_
  clear u2 K2
  refine sK fun K2 u2=>?_
  refine AWp.block ?_
  have fin:∀ sl bx,keyM nm m d=false→sget sl 1=strV nm→sget sl 2=strV m→sget sl 3=.box 3 0→sget sl 7=intV j→bget bx 3=some (.cells ((prC p).map .d))→K2 sl bx:=fun sl bx hk g1 g2 g3 g4 g5=>by
   refine u2 _ _ ?_
   refine AWp.weaken (sl':=[(1,strV nm),(2,strV m),(3,.box 3 0),(7,intV j)]) (bx':=[(3,.cells ((prC p).map .d))]) (by simp [sle,vle,g1,g2,g3,g4]) (by simp [ble,g5]) ?_
   (refine lV q1I fun K z=>?_;refine cl ?_;apply z;clear z K;try simp only [thenA,blockA,if_true])
   refine⟨(),?_,sS,(by simp [ble,bget,exC,tyC,foC,paC,siC,deC,prC])⟩
   rw [tk]
   intro y hy
   rcases List.mem_append.1 hy with hy | hy
   ·exact hI y hy
   ·simp only [List.mem_cons,List.not_mem_nil,or_false] at hy
    rw [hy];exact hk
  by_cases h1:d.kind=3
  ·by_cases h2:d.name=nm
   ·by_cases h3:d.sig.name=m
    ·(refine sQ q1I fun K z=>?_;refine ev3 h1 h2 h3 ?_;refine⟨by omega,_,deR_get hd,rfl,?_⟩;(try refine ev3 h1 h2 h3 ?_);refine⟨by omega,_,deR_get hd,rfl,?_⟩;(try refine ev3 h1 h2 h3 ?_);refine⟨by omega,_,deR_get hd,rfl,?_⟩;(try refine ev3 h1 h2 h3 ?_);apply z;clear z K)
     refine AWp.condT rfl ?_
     refine sR q1I ?_
     rw [idxF_some hd (by simp [keyM,h1,h2,h3]) hI]
     exact aR
    ·(refine sQ q1I fun K z=>?_;refine ev3 h1 h2 h3 ?_;refine⟨by omega,_,deR_get hd,rfl,?_⟩;(try refine ev3 h1 h2 h3 ?_);refine⟨by omega,_,deR_get hd,rfl,?_⟩;(try refine ev3 h1 h2 h3 ?_);refine⟨by omega,_,deR_get hd,rfl,?_⟩;(try refine ev3 h1 h2 h3 ?_);apply z;clear z K)
     refine AWp.condF rfl (AWp.skip (fin _ _ (by simp [keyM,h3]) rfl rfl rfl rfl rfl))
   ·(refine sQ q1I fun K z=>?_;refine ev2 h1 h2 ?_;refine⟨by omega,_,deR_get hd,rfl,?_⟩;(try refine ev2 h1 h2 ?_);refine⟨by omega,_,deR_get hd,rfl,?_⟩;(try refine ev2 h1 h2 ?_);apply z;clear z K)
    refine AWp.condF rfl (AWp.skip (fin _ _ (by simp [keyM,h2]) rfl rfl rfl rfl rfl))
  ·(refine sQ q1I fun K z=>?_;refine ev1 h1 ?_;refine⟨by omega,_,deR_get hd,rfl,?_⟩;(try refine ev1 h1 ?_);apply z;clear z K)
   refine AWp.condF rfl (AWp.skip (fin _ _ (by simp [keyM,h1]) rfl rfl rfl rfl rfl))
def methP (p:Prog)(x:Ty)(m:Str):Int:=if instB p x 1=true then (match p.decls[(methI p x.name m).toNat]? with
 | some d=>if 0≤methI p x.name m∧d.vars.length=x.args.length then methI p x.name m else -1
 | none=>-1) else -1
abbrev q2I:List Nat:=[0,1,2,3,4,6,7,33]
theorem ok_Method (p:Prog)(hl:p.decls.length≤sm)(x:Ty)(m:Str):CallOK prog 63 [prV p,tyV x,strV m] (intV (methP p x m)):=by
 have hf:=ok_FindMethod p hl x.name m
 have hi:=ok_RefInstance p x 1
 unfold methP
 have hc:=idxF_cases (keyM x.name m) p.decls
 unfold methI at *
 generalize idxF (keyM x.name m) p.decls=k at *
 refine cB func63 ?_
 refine sR q2I ?_
 refine sC hf q2I ?_
 rcases Bool.eq_false_or_eq_true (instB p x 1) with h1 | h1
 ·rw [h1] at hi
  rw [if_pos h1]
  rcases hc with ⟨rfl,_⟩ | ⟨j,d,rfl,hd,_⟩
  ·refine sK fun K1 u1=>?_
   (refine sG q2I [] 19 [] fun K z=>?_;refine ev ?_;refine cc hi ?_;apply z;clear z K)
   refine tI ?_
   refine sR q2I ?_
   have:(match p.decls[(-1:Int).toNat]? with
    | some d=>if 0≤(-1:Int)∧d.vars.length=x.args.length then (-1:Int) else -1
    | none=>-1) = -1:=by
    cases p.decls[(-1:Int).toNat]? with
    | none=>rfl
    | some d=>simp
   rw [this]
   exact aR
  ·have hge:¬ (j:Int) < 0:=by omega
   simp only [Int.toNat_natCast,hd]
   by_cases h2:d.vars.length=x.args.length
   ·have h2':(d.vars.length:Int)=x.args.length:=by omega
    rw [if_pos ⟨by omega,h2⟩]
    refine sK fun K1 u1=>?_
    (refine sG q2I [] 19 [] fun K z=>?_;refine ev2 hge h2' ?_;refine⟨_,.inl ⟨_,rfl,hi,rfl⟩,?_⟩;(try refine ev2 hge h2' ?_);refine⟨by omega,_,deR_get hd,rfl,?_⟩;(try refine ev2 hge h2' ?_);apply z;clear z K)
    refine kI u1 ?_
    refine sR q2I ?_
    exact aR
   ·have h2':¬ (d.vars.length:Int)=x.args.length:=by omega
    rw [if_neg (fun h=>h2 h.2)]
    refine sK fun K1 u1=>?_
    (refine sG q2I [] 19 [] fun K z=>?_;refine ev2 hge h2' ?_;refine⟨_,.inl ⟨_,rfl,hi,rfl⟩,?_⟩;(try refine ev2 hge h2' ?_);refine⟨by omega,_,deR_get hd,rfl,?_⟩;(try refine ev2 hge h2' ?_);apply z;clear z K)
    refine tI ?_
    refine sR q2I ?_
    exact aR
 ·rw [h1] at hi
  rw [if_neg (by rw [h1];decide)]
  refine sK fun K1 u1=>?_
  (refine sG q2I [] 19 [] fun K z=>?_;refine ev ?_;refine cc hi ?_;apply z;clear z K)
  refine tI ?_
  refine sR q2I ?_
  exact aR
def methB (p:Prog)(x:Ty)(d:Decl)(i:Nat):Bool:=decide (d.kind=3) && decide (d.name=x.name) && decide (methP p x d.sig.name=(i:Int))
def methL (p:Prog)(x:Ty)(j:Nat):List Sig:=((p.decls.take j).zipIdx.filter fun di=>methB p x di.1 di.2).map fun di=>di.1.sig.canon.subst di.1.vars x.args
theorem methL_succ {p:Prog} {x:Ty} {j:Nat} {d:Decl} (hj:j < p.decls.length)(ht:p.decls.take (j+1)=p.decls.take j++[d]):methL p x (j+1)=methL p x j++if methB p x d j=true then [d.sig.canon.subst d.vars x.args] else []:=by
 unfold methL
 have hlen:(p.decls.take j).length=j:=by rw [List.length_take];omega
 rw [ht,List.zipIdx_append,List.filter_append,List.map_append,hlen]
 congr 1
 simp only [List.zipIdx_cons,List.zipIdx_nil,Nat.zero_add,List.filter_cons,List.filter_nil]
 split <;> simp_all
theorem methL_len (p:Prog)(x:Ty)(j:Nat):(methL p x j).length≤j:=by
 unfold methL
 rw [List.length_map]
 refine Nat.le_trans (List.length_filter_le ..) ?_
 rw [List.length_zipIdx,List.length_take];omega
abbrev q3I:List Nat:=[0,1,2,3,4,5,6,7,12,39]
theorem ok_RMethods (p:Prog)(h:p.Sm)(x:Ty)(hx:x.Sm):CallB prog 98 [prV p,tyV x] [] (.acc 5) [(5,.rows 7 (siR (methL p x p.decls.length)))]:=by
 have hl:=h.decls.1
 refine bB func98 ?_
 refine sR q3I ?_
 refine sR q3I ?_
 refine AWp.promote 5 7 5 rfl ?_
 refine kR q3I fun K1 u1=>?_
 refine AWp.block (AWp.forIdx p.decls (X:=Unit) (fun j _=>[(2,.box 2 0),(3,.box 3 0),(5,.acc 5),(6,intV j)]) (fun j _=>[(2,.cells ((prC p).map .d)),(3,.cells ((tyC x).map .d)),(5,.rows 7 (siR (methL p x j)))])
  (fun j _=>True) () trivial sS (by simp [ble,bget,berase,methL,siR,prC,tyC]) ?_ ?_)
 ·intro _ _
  refine kR1 Int.lt_irrefl q3I fun K2 u2=>?_
  refine AWp.stopK rfl ?_
  simp only [thenA,blockA,if_true]
  refine u1 _ _ ?_
  refine sR q3I ?_
  exact AWp.ret ⟨_,by rw [results98];rfl,.inl rfl,by simp [ble,bget]⟩
 ·intro j _ d hd hmem dp tk hlt hI
  have hlen:=methL_len p x j
  have hsucc:=methL_succ (x:=x) (by omega) tk
  have hdm:=h.decls.2 d hmem
  have hme:=ok_Method p hl x d.sig.name
  refine kR1 hlt q3I fun K2 u2=>?_
  refine gI u2 ?_
  clear u2 K2
  refine sK fun K2 u2=>?_
  refine AWp.block ?_
  (refine sV q3I fun K z=>?_;refine ci (deR_get hd) ?_;apply z;clear z K)
  have fin:∀ sl bx,methB p x d j=false→sget sl 2=.box 2 0→sget sl 3=.box 3 0→sget sl 5=.acc 5→sget sl 6=intV j→bget bx 2=some (.cells ((prC p).map .d))→bget bx 3=some (.cells ((tyC x).map .d))→bget bx 5=some (.rows 7 (siR (methL p x j)))→K2 sl bx:=fun sl bx hk g1 g2 g3 g4 g5 g6 g7=>by
   refine u2 _ _ ?_
   refine AWp.weaken (sl':=[(2,.box 2 0),(3,.box 3 0),(5,.acc 5),(6,intV j)]) (bx':=[(2,.cells ((prC p).map .d)),(3,.cells ((tyC x).map .d)),(5,.rows 7 (siR (methL p x j)))]) (by simp [sle,vle,g1,g2,g3,g4]) (by simp [ble,g5,g6,g7]) ?_
   (refine lV q3I fun K z=>?_;refine cl ?_;apply z;clear z K;try simp only [thenA,blockA,if_true])
   rw [hk,if_neg (by decide),List.append_nil] at hsucc
   exact⟨(),trivial,sS,by simp [ble,bget,hsucc,prC,tyC]⟩
  by_cases h1:d.kind=3
  ·by_cases h2:d.name=x.name
   ·by_cases h3:methP p x d.sig.name=(j:Int)
    ·(refine sQ q3I fun K z=>?_;refine ev3 h1 h2 h3 ?_;refine⟨_,.inl ⟨_,rfl,hme,rfl⟩,?_⟩;(try refine ev3 h1 h2 h3 ?_);apply z;clear z K)
     refine AWp.condT rfl ?_
     have hk:methB p x d j=true:=by simp [methB,h1,h2,h3]
     rw [hk,if_pos rfl] at hsucc
     (refine lG q3I [] 10 [] fun K z=>?_;refine ev ?_;refine cc (ok_RCanon d.sig hdm.sig) ?_;refine cc (ok_RefSubst d.vars x.args hx.arg _ hdm.sig.canon) ?_;refine⟨by simp,by unfold lim sm at *;omega,?_⟩;(try refine ev ?_);apply z;clear z K;try simp only [thenA,blockA,if_true])
     refine u2 _ _ ?_
     clear u2 K2 fin
     (refine lV q3I fun K z=>?_;refine cl ?_;apply z;clear z K;try simp only [thenA,blockA,if_true])
     exact⟨(),trivial,sS,by simp [ble,bget,hsucc,siR_append,siR,siC,prC,tyC]⟩
    ·(refine sQ q3I fun K z=>?_;refine ev3 h1 h2 h3 ?_;refine⟨_,.inl ⟨_,rfl,hme,rfl⟩,?_⟩;(try refine ev3 h1 h2 h3 ?_);apply z;clear z K)
     refine AWp.condF rfl (AWp.skip (fin _ _ (by simp [methB,h3]) rfl rfl rfl rfl rfl rfl rfl))
   ·refine sR2 h1 h2 q3I ?_
    refine AWp.condF rfl (AWp.skip (fin _ _ (by simp [methB,h2]) rfl rfl rfl rfl rfl rfl rfl))
  ·refine sR1 h1 q3I ?_
   refine AWp.condF rfl (AWp.skip (fin _ _ (by simp [methB,h1]) rfl rfl rfl rfl rfl rfl rfl))
theorem firstK_idx (l:List Lit):∀ (ds:List Decl)(i:Nat),firstK l ds i=(ds.findIdx? fun d=>match keyOfD d with | some k'=>decide (l=k'.lits) | none=>false).map fun j=>D.int .i64 ((i+j:Nat):Int)
 | [],i=>rfl
 | d::ds,i=>by
  rw [firstK,List.findIdx?_cons,firstK_idx l ds (i+1)]
  have hm:∀ o:Option Nat,(o.map fun j=>D.int .i64 ((i+1+j:Nat):Int))=(o.map (·+1)).map fun j=>D.int .i64 ((i+j:Nat):Int):=fun o=>by
   cases o with
   | none=>rfl
   | some j=>simp only [Option.map_some,Option.some.injEq,D.int.injEq,true_and];congr 1;omega
  cases hk:keyOfD d with
  | none=>simp only [if_neg (show ¬ (false=true) by decide)];exact hm _
  | some k =>
   simp only
   by_cases h:l=k.lits
   ·simp [h]
   ·simp only [h,if_false,decide_false];exact hm _
theorem keyM_eq (nm m:Str):(fun d:Decl=>match keyOfD d with | some k'=>decide ((tkey nm (46::m)).lits=k'.lits) | none=>false)=keyM nm m:=by
 funext d
 unfold keyOfD keyM
 by_cases h1:d.kind=1∨d.kind=2
 ·rw [if_pos h1]
  have h3:¬ d.kind=3:=by omega
  simp [h3,tkey,D.lits,D.lit]
 ·rw [if_neg h1]
  by_cases h4:d.kind=3
  ·rw [if_pos h4]
   have e:((tkey nm (46::m)).lits=(tkey d.name (46::d.sig.name)).lits)↔(d.name=nm∧d.sig.name=m):=by
    simp only [tkey,D.lits,D.lit,List.map_cons,List.map_nil,List.cons.injEq,Lit.string.injEq,and_true,true_and]
    exact⟨fun h=>⟨h.1.symm,h.2.symm⟩,fun h=>⟨h.1.symm,h.2.symm⟩⟩
   simp only [h4,decide_true,Bool.true_and,e,Bool.decide_and]
  ·rw [if_neg h4];simp [h4]
theorem tab_meth (p:Prog)(nm m:Str):(methI p nm m = -1∧kfind (tkey nm (46::m)).lits (tabM p) 0=none)∨∃ (j q:Nat),methI p nm m=j∧kfind (tkey nm (46::m)).lits (tabM p) 0=some (q,.int .i64 j):=by
 have hkv:kval (tkey nm (46::m)).lits (tabM p)=firstK (tkey nm (46::m)).lits p.decls 0:=by unfold tabM;rw [kval_tabF];rfl
 rw [firstK_idx,keyM_eq] at hkv
 unfold kval at hkv
 unfold methI idxF
 cases hi:p.decls.findIdx? (keyM nm m) with
 | none =>
  rw [hi] at hkv
  exact .inl ⟨rfl,by simpa using hkv⟩
 | some j =>
  rw [hi] at hkv
  refine .inr ⟨j,?_⟩
  cases hf:kfind (tkey nm (46::m)).lits (tabM p) 0 with
  | none=>rw [hf] at hkv;simp at hkv
  | some qd =>
   obtain⟨q,d⟩:=qd
   rw [hf] at hkv
   simp only [Option.map_some,Option.some.injEq,Nat.zero_add] at hkv
   exact⟨q,rfl,by rw [hkv]⟩
theorem methB_eq {p:Prog} {x:Ty} {d:Decl} {j:Nat} (hi:instB p x 1=true)(hd:p.decls[j]? = some d):methB p x d j=(decide (methI p x.name d.sig.name=(j:Int)) && decide (d.vars.length=x.args.length)):=by
 unfold methB methP
 rw [if_pos hi]
 unfold methI
 rcases idxF_cases (keyM x.name d.sig.name) p.decls with ⟨h1,_⟩ | ⟨k,e,h1,h2,h3⟩
 ·rw [h1]
  have h0:¬ (-1:Int)=(j:Int):=by omega
  have:(match p.decls[(-1:Int).toNat]? with
    | some d=>if 0≤(-1:Int)∧d.vars.length=x.args.length then (-1:Int) else -1
    | none=>-1) = -1:=by
    cases p.decls[(-1:Int).toNat]? with
    | none=>rfl
    | some d=>simp
  rw [this]
  simp [h0]
 ·rw [h1]
  simp only [Int.toNat_natCast,h2]
  by_cases hk:k=j
  ·subst hk
   rw [h2] at hd
   simp only [Option.some.injEq] at hd;subst hd
   simp only [keyM,Bool.and_eq_true,decide_eq_true_eq] at h3
   by_cases hv:e.vars.length=x.args.length
   ·simp [h3,hv]
   ·have h0:¬ (-1:Int)=(k:Int):=by omega
    simp [hv,h0]
  ·have h0:¬ (k:Int)=(j:Int):=by omega
   by_cases hv:e.vars.length=x.args.length
   ·simp [hv,h0]
   ·have h1:¬ (-1:Int)=(j:Int):=by omega
    simp [hv,h0,h1]
theorem methL_nil {p:Prog} {x:Ty} (hi:¬ instB p x 1=true)(j:Nat):methL p x j=[]:=by
 unfold methL
 rw [List.map_eq_nil_iff,List.filter_eq_nil_iff]
 rintro⟨d,i⟩ _
 simp only [methB,methP,if_neg hi]
 have h0:¬ (-1:Int)=(i:Int):=by omega
 simp [h0]
abbrev q4I:List Nat:=[0,1,3,4,6,7,8,9,10,11,19,24,25,26,27,60]
theorem ok_TMethods (p:Prog)(h:p.Sm)(x:Ty)(hx:x.Sm):CallB prog 186 [.dptr (tabC p) 0,tyV x] [] (.acc 7) [(7,.rows 7 (siR (methL p x p.decls.length)))]:=by
 have hl:=h.decls.1
 have hin:=ok_instance p h x 1 (by decide)
 generalize (declT p x.name).getD default=dd at *
 refine bB func186 ?_
 refine sR q4I ?_
 rcases Bool.eq_false_or_eq_true (instB p x 1) with hi | hi
 ·rw [hi] at hin
  refine kC hin q4I fun K1 u1=>?_
  refine sR q4I ?_
  refine kI u1 ?_
  clear u1 K1
  refine sR q4I ?_
  refine AWp.promote 7 7 7 rfl ?_
  refine sK fun K1 u1=>?_
  (refine sQ q4I fun K z=>?_;simp -implicitDefEqProofs only [EV,forall_const,implies_true,Nat.reduceAdd,Nat.reduceEqDiff,Nat.reduceBEq,Nat.reduceLeDiff,Nat.reduceSub,Nat.reduceMul,Int.reduceEq,Int.reduceLT,Int.reduceLE,Int.reduceSub,Int.reduceAdd,Int.reduceToNat,reduceCtorEq,Int.reduceNeg,TF3,TF4,TF9,TF22,TF23,TF25,TF30,TF52,TF58,TF59,TF61,TF140,TF142,TF144,tabC,TF87];apply z;clear z K)
  refine AWp.block (AWp.forIdx p.decls (X:=Unit) (fun j _=>[(0,.dptr (tabC p) 0),(3,.box 3 0),(7,.acc 7),(24,.d (.slice (deR p.decls))),(25,intV p.decls.length),(26,intV j)]) (fun j _=>[(3,.cells ((tyC x).map .d)),(7,.rows 7 (siR (methL p x j)))])
   (fun j _=>True) () trivial (by simp [sle,vle,sget,tabC,prC]) (by simp [ble,bget,berase,methL,siR,prC,tyC]) ?_ ?_)
  ·intro _ _
   refine sR1 Int.lt_irrefl q4I ?_
   refine AWp.stop rfl ?_
   simp only [thenA,blockA,if_true]
   refine u1 _ _ ?_
   refine sR q4I ?_
   exact AWp.ret ⟨_,by rw [results186];rfl,.inl rfl,by simp [ble,bget]⟩
  ·intro j _ d hd hmem dp tk hlt hI
   have hlen:=methL_len p x j
   have hsucc:=methL_succ (x:=x) (by omega) tk
   have hdm:=h.decls.2 d hmem
   have hb:=methB_eq hi hd
   refine sR1 hlt q4I ?_
   refine AWp.goOn rfl ?_
   refine sK fun K2 u2=>?_
   refine AWp.block ?_
   (refine sV q4I fun K z=>?_;refine ci (deR_get hd) ?_;apply z;clear z K)
   have hnm:=hdm.sig.name
   have hk:=key_two two79 x.name (46::d.sig.name) (Nat.le_trans hx.name (by decide)) (by simp only [List.length_cons];unfold sm lim at *;omega)
   have htm:=tab_meth p x.name d.sig.name
   unfold tkey at hk htm
   (refine sG q4I [] 16 [] fun K z=>?_;simp -implicitDefEqProofs only [EV,forall_const,implies_true,Nat.reduceAdd,Nat.reduceEqDiff,Nat.reduceBEq,Nat.reduceLeDiff,Nat.reduceSub,Nat.reduceMul,Int.reduceEq,Int.reduceLT,Int.reduceLE,Int.reduceSub,Int.reduceAdd,Int.reduceToNat,reduceCtorEq,Int.reduceNeg,TF3,TF4,TF9,TF22,TF23,TF25,TF30,TF52,TF58,TF59,TF61,TF140,TF142,TF144,tabC,TF87];refine⟨by unfold sm lim at *;omega,tabM_keys p h,hk,?_⟩;(try simp -implicitDefEqProofs only [EV,forall_const,implies_true,Nat.reduceAdd,Nat.reduceEqDiff,Nat.reduceBEq,Nat.reduceLeDiff,Nat.reduceSub,Nat.reduceMul,Int.reduceEq,Int.reduceLT,Int.reduceLE,Int.reduceSub,Int.reduceAdd,Int.reduceToNat,reduceCtorEq,Int.reduceNeg,TF3,TF4,TF9,TF22,TF23,TF25,TF30,TF52,TF58,TF59,TF61,TF140,TF142,TF144,tabC,TF87]);apply z;clear z K)
   have fin:∀ sl bx,methB p x d j=false→sget sl 0=.dptr (tabC p) 0→sget sl 3=.box 3 0→sget sl 7=.acc 7→sget sl 24=.d (.slice (deR p.decls))→sget sl 25=intV p.decls.length→sget sl 26=intV j→bget bx 3=some (.cells ((tyC x).map .d))→bget bx 7=some (.rows 7 (siR (methL p x j)))→K2 sl bx:=fun sl bx hk g1 g2 g3 g4 g5 g6 g7 g8=>by
    refine u2 _ _ ?_
    refine AWp.weaken (sl':=[(0,.dptr (tabC p) 0),(3,.box 3 0),(7,.acc 7),(24,.d (.slice (deR p.decls))),(25,intV p.decls.length),(26,intV j)]) (bx':=[(3,.cells ((tyC x).map .d)),(7,.rows 7 (siR (methL p x j)))]) (by simp [sle,vle,g1,g2,g3,g4,g5,g6]) (by simp [ble,g7,g8]) ?_
    (refine lV q4I fun K z=>?_;refine cl ?_;apply z;clear z K;try simp only [thenA,blockA,if_true])
    rw [hk,if_neg (by decide),List.append_nil] at hsucc
    exact⟨(),trivial,(by simp [sle,vle,sget,tabC,prC]),by simp [ble,bget,hsucc,tyC]⟩
   rcases htm with ⟨m1,m2⟩ | ⟨k,q,m1,m2⟩
   ·have h0:¬ (-1:Int)=(j:Int):=by omega
    simp only [lookV,m2,Option.isSome_none]
    refine sR q4I ?_
    refine AWp.condF rfl (AWp.skip (fin _ _ (by rw [hb,m1];simp [h0]) rfl rfl rfl rfl rfl rfl rfl rfl))
   ·simp only [lookV,m2,ofD,Option.isSome_some]
    by_cases hkj:(k:Int)=(j:Int)
    ·by_cases hv:d.vars.length=x.args.length
     ·have hv':(d.vars.length:Int)=x.args.length:=by omega
      refine sR2 hkj hv' q4I ?_
      refine AWp.condT rfl ?_
      have hk:methB p x d j=true:=by rw [hb,m1];simp [hkj,hv]
      rw [hk,if_pos rfl] at hsucc
      (refine lG q4I [] 10 [] fun K z=>?_;refine ev ?_;refine cc (ok_BCanon d.sig hdm.sig) ?_;refine cc (ok_BSubst d.vars x.args hx.arg _ hdm.sig.canon) ?_;refine⟨by simp,by unfold lim sm at *;omega,?_⟩;(try refine ev ?_);apply z;clear z K;try simp only [thenA,blockA,if_true])
      refine u2 _ _ ?_
      clear u2 K2 fin
      (refine lV q4I fun K z=>?_;refine cl ?_;apply z;clear z K;try simp only [thenA,blockA,if_true])
      exact⟨(),trivial,(by simp [sle,vle,sget,tabC,prC]),by simp [ble,bget,hsucc,siR_append,siR,siC,tyC]⟩
     ·have hv':¬ (d.vars.length:Int)=x.args.length:=by omega
      refine sR2 hkj hv' q4I ?_
      refine AWp.condF rfl (AWp.skip (fin _ _ (by rw [hb,m1];simp [hv]) rfl rfl rfl rfl rfl rfl rfl rfl))
    ·refine sR1 hkj q4I ?_
     refine AWp.condF rfl (AWp.skip (fin _ _ (by rw [hb,m1];simp [hkj]) rfl rfl rfl rfl rfl rfl rfl rfl))
 ·rw [hi] at hin
  refine kC hin q4I fun K1 u1=>?_
  refine sR q4I ?_
  refine tI ?_
  refine sR q4I ?_
  rw [methL_nil (by rw [hi];decide)]
  refine AWp.promote 7 7 4 rfl ?_
  exact AWp.ret ⟨_,by rw [results186];rfl,.inl rfl,by simp [ble,bget,siR]⟩
def nmD (l:List Str):List (D × D):=l.map fun s=>(.str s,.bool true)
def addN (l:List Str)(s:Str):List Str:=if s∈l then l else l++[s]
theorem kfind_nmD (s:Str):∀ (l:List Str)(i:Nat),(s∈l→∃ j,l[j]? = some s∧kfind (D.str s).lits (nmD l) i=some (i+j,.bool true))∧(s ∉ l→kfind (D.str s).lits (nmD l) i=none)
 | [],i=>by simp [nmD,kfind]
 | x::l,i=>by
  have ih:=kfind_nmD s l (i+1)
  have he:nmD (x::l)=(.str x,.bool true)::nmD l:=rfl
  rw [he]
  simp only [kfind]
  by_cases hx:s=x
  ·subst hx
   refine⟨fun _=>⟨0,rfl,by simp⟩,fun h=>absurd (List.mem_cons_self ..) h⟩
  ·have hne:¬ (D.str s).lits=(D.str x).lits:=by simp [D.lits,D.lit,hx]
   rw [if_neg hne]
   refine⟨fun h=>?_,fun h=>ih.2 fun h'=>h (by simp [h'])⟩
   obtain⟨j,h1,h2⟩:=ih.1 ((List.mem_cons.1 h).resolve_left hx)
   exact⟨j+1,by simpa using h1,by rw [h2];congr 2;omega⟩
theorem kput_nmD (s:Str)(l:List Str):kput (.str s) (.bool true) (nmD l)=nmD (addN l s):=by
 unfold kput addN
 by_cases h:s∈l
 ·obtain⟨j,h1,h2⟩:=(kfind_nmD s l 0).1 h
  rw [h2,if_pos h]
  have hj:=(List.getElem?_eq_some_iff.1 h1).1
  have hjs:l[j]=s:=(List.getElem?_eq_some_iff.1 h1).2
  simp only [Nat.zero_add]
  apply List.ext_getElem?
  intro k
  by_cases hk:k=j
  ·subst hk
   rw [List.getElem?_set_self (by simpa [nmD] using hj)]
   simp [nmD,h1]
  ·rw [List.getElem?_set_ne (by omega)]
 ·rw [(kfind_nmD s l 0).2 h,if_neg h]
  simp [nmD]
theorem look_nmD (s:Str)(l:List Str):lookV (.str s) (nmD l) (.d (.bool false))=boolV (decide (s∈l)):=by
 unfold lookV
 by_cases h:s∈l
 ·obtain⟨j,h1,h2⟩:=(kfind_nmD s l 0).1 h
  rw [h2];simp [ofD,h]
 ·rw [(kfind_nmD s l 0).2 h];simp [h]
theorem mem_addN {l:List Str} {s x:Str}:x∈addN l s↔x=s∨x∈l:=by
 unfold addN
 split
 ·constructor
  ·exact .inr
  ·rintro (rfl | h)
   ·assumption
   ·exact h
 ·simp [or_comm]
theorem keyS (s:Str)(h:s.length≤lim):KeyAt prog 9 (.str s):=by
 have hu:prog.underlying 9=some .string:=TF9.2.2.2.2.1
 refine⟨rfl,by simp [D.kv,D.lit,Lit.value,Value.formed,hu],?_⟩
 simp [D.kv,D.lit,D.lits,Lit.value,Value.cells,Program.keyLits,hu,ByteArray.size]
 unfold lim at h;unfold maxLen;omega
theorem nmD_keys {l:List Str} (h:∀ s,s∈l→s.length≤lim):∀ kv,kv∈nmD l→KeyAt prog 9 kv.1:=by
 intro kv hkv
 obtain⟨s,hs,rfl⟩:=List.mem_map.1 hkv
 exact keyS s (h s hs)
def seenN (l:List Sig):List Str:=l.foldl (fun m s=>addN m s.name) []
theorem seenN_append (l:List Sig)(d:Sig):seenN (l++[d])=addN (seenN l) d.name:=by simp [seenN]
theorem mem_foldN (l:List Sig)(s:Str):∀ m:List Str,s∈l.foldl (fun m s=>addN m s.name) m↔s∈m∨∃ y,y∈l∧y.name=s:=by
 induction l with
 | nil=>simp
 | cons a l ih =>
  intro m
  rw [List.foldl_cons,ih,mem_addN]
  simp only [List.mem_cons]
  constructor
  ·rintro ((rfl | h) | ⟨y,h1,h2⟩)
   ·exact .inr ⟨a,.inl rfl,rfl⟩
   ·exact .inl h
   ·exact .inr ⟨y,.inr h1,h2⟩
  ·rintro (h | ⟨y,rfl | h1,h2⟩)
   ·exact .inl (.inr h)
   ·exact .inl (.inl h2.symm)
   ·exact .inr ⟨y,h1,h2⟩
theorem mem_seenN (l:List Sig)(s:Str):s∈seenN l↔∃ y,y∈l∧y.name=s:=by unfold seenN;rw [mem_foldN];simp
def newB (l:List Sig)(s:Sig)(i:Nat):Bool:=decide (∀ y,y∈l.take i→y.name≠s.name)
def specL (vars:List Str)(args:List Ty)(l:List Sig)(j:Nat):List Sig:=((l.take j).zipIdx.filter fun si=>newB l si.1 si.2).map fun si=>si.1.canon.subst vars args
theorem specL_succ {vars:List Str} {args:List Ty} {l:List Sig} {j:Nat} {d:Sig} (hj:j < l.length)(ht:l.take (j+1)=l.take j++[d]):specL vars args l (j+1)=specL vars args l j++if newB l d j=true then [d.canon.subst vars args] else []:=by
 unfold specL
 have hlen:(l.take j).length=j:=by rw [List.length_take];omega
 rw [ht,List.zipIdx_append,List.filter_append,List.map_append,hlen]
 congr 1
 simp only [List.zipIdx_cons,List.zipIdx_nil,Nat.zero_add,List.filter_cons,List.filter_nil]
 split <;> simp_all
theorem specL_len (vars:List Str)(args:List Ty)(l:List Sig)(j:Nat):(specL vars args l j).length≤j:=by
 unfold specL
 rw [List.length_map]
 refine Nat.le_trans (List.length_filter_le ..) ?_
 rw [List.length_zipIdx,List.length_take];omega
def specsD (d:Decl)(x:Ty):List Sig:=specL (fnames d.formals) x.args d.sigs d.sigs.length
def specsT (p:Prog)(x:Ty):List Sig:=if instB p x 2=true then specsD ((declT p x.name).getD default) x else []
theorem inst_decl {p:Prog} {x:Ty} {k:Int} (hk:k≠0)(h:instB p x k=true):∃ d,declT p x.name=some d∧d.kind=k∧d.formals.length=x.args.length:=by
 unfold instB at h
 simp only [Bool.and_eq_true,decide_eq_true_eq] at h
 cases ho:declT p x.name with
 | none=>have:=(kind_none ho).1;omega
 | some d =>
  obtain⟨h1,h2⟩:=kind_some ho
  exact⟨d,rfl,by omega,by rw [← h2];exact h.2⟩
abbrev q1J:List Nat:=[0,1,3,4,5,6,7,8,9,11,19,20,22,23,24,25,32]
theorem ok_TSpecs (p:Prog)(h:p.Sm)(x:Ty)(hx:x.Sm):CallB prog 117 [.dptr (tabC p) 0,tyV x] [] (.tuple [.acc 8,boolV (instB p x 2)]) [(8,.rows 7 (siR (specsT p x)))]:=by
 have hin:=ok_instance p h x 2 (by decide)
 unfold specsT
 rcases Bool.eq_false_or_eq_true (instB p x 2) with hi | hi
 ·obtain⟨dd,hdd,_⟩:=inst_decl (by decide) hi
  rw [hi] at hin
  rw [if_pos hi,hi]
  rw [hdd,Option.getD_some] at hin ⊢
  have hddm:=h.decls.2 dd (declT_mem hdd)
  have hsl:=hddm.sigs.1
  unfold specsD
  refine bB func117 ?_
  refine sR q1J ?_
  refine sC hin q1J ?_
  refine kR q1J fun K1 u1=>?_
  refine kI u1 ?_
  clear u1 K1
  refine sR q1J ?_
  refine AWp.promote 8 7 8 rfl ?_
  refine sR q1J ?_
  refine kR q1J fun K1 u1=>?_
  refine AWp.block (AWp.forIdx dd.sigs (X:=Unit) (fun j _=>[(3,.box 3 0),(6,.box 6 0),(8,.acc 8),(9,.mp 20),(22,.d (.slice (siR dd.sigs))),(23,intV dd.sigs.length),(24,intV j)])
   (fun j _=>[(3,.cells ((tyC x).map .d)),(6,.cells ((deC dd).map .d)),(8,.rows 7 (siR (specL (fnames dd.formals) x.args dd.sigs j))),(20,.map (nmD (seenN (dd.sigs.take j))))])
   (fun j _=>True) () trivial sS (by simp [ble,bget,berase,specL,siR,deC,tyC,nmD,seenN]) ?_ ?_)
  ·intro _ _
   refine sR1 Int.lt_irrefl q1J ?_
   refine AWp.stop rfl ?_
   simp only [thenA,blockA,if_true]
   refine u1 _ _ ?_
   refine sR q1J ?_
   exact AWp.ret ⟨_,by rw [results117];rfl,.inl rfl,by simp [ble,bget]⟩
  ·intro j _ d hd hmem dp tk hlt hI
   have hlen:=specL_len (fnames dd.formals) x.args dd.sigs j
   have hsucc:=specL_succ (vars:=fnames dd.formals) (args:=x.args) (by omega) tk
   have hdm:=hddm.sigs.2 d hmem
   have hseen:seenN (dd.sigs.take (j+1))=addN (seenN (dd.sigs.take j)) d.name:=by rw [tk,seenN_append]
   have hk:KeyAt prog 9 (.str d.name):=keyS _ (Nat.le_trans hdm.name (by decide))
   have hks:∀ kv,kv∈nmD (seenN (dd.sigs.take j))→KeyAt prog 9 kv.1:=nmD_keys fun s hs=>by
    obtain⟨y,hy,rfl⟩:=(mem_seenN _ _).1 hs
    exact Nat.le_trans (hddm.sigs.2 y (List.mem_of_mem_take hy)).name (by decide)
   have hnew:newB dd.sigs d j = !decide (d.name∈seenN (dd.sigs.take j)):=by
    unfold newB
    rw [Bool.eq_iff_iff]
    simp [mem_seenN]
   refine sR1 hlt q1J ?_
   refine AWp.goOn rfl ?_
   refine sK fun K2 u2=>?_
   refine AWp.block ?_
   (refine sV q1J fun K z=>?_;refine ci (siR_get hd) ?_;apply z;clear z K)
   refine sK fun K3 u3=>?_
   (refine sQ q1J fun K z=>?_;simp -implicitDefEqProofs only [EV,forall_const,implies_true,Nat.reduceAdd,Nat.reduceEqDiff,Nat.reduceBEq,Nat.reduceLeDiff,Nat.reduceSub,Nat.reduceMul,Int.reduceEq,Int.reduceLT,Int.reduceLE,Int.reduceSub,Int.reduceAdd,Int.reduceToNat,reduceCtorEq,Int.reduceNeg,TF3,TF4,TF9,TF23,TF25,TF49,TF52,TF58,TF61,TF147,TF227,look_nmD];refine⟨hks,hk,?_⟩;(try simp -implicitDefEqProofs only [EV,forall_const,implies_true,Nat.reduceAdd,Nat.reduceEqDiff,Nat.reduceBEq,Nat.reduceLeDiff,Nat.reduceSub,Nat.reduceMul,Int.reduceEq,Int.reduceLT,Int.reduceLE,Int.reduceSub,Int.reduceAdd,Int.reduceToNat,reduceCtorEq,Int.reduceNeg,TF3,TF4,TF9,TF23,TF25,TF49,TF52,TF58,TF61,TF147,TF227,look_nmD]);apply z;clear z K)
   have fin:∀ sl bx,sget sl 3=.box 3 0→sget sl 6=.box 6 0→sget sl 8=.acc 8→sget sl 9=.mp 20→sget sl 11=.box 11 0→sget sl 22=.d (.slice (siR dd.sigs))→sget sl 23=intV dd.sigs.length→sget sl 24=intV j →
     bget bx 3=some (.cells ((tyC x).map .d))→bget bx 6=some (.cells ((deC dd).map .d))→bget bx 8=some (.rows 7 (siR (specL (fnames dd.formals) x.args dd.sigs (j+1))))→bget bx 11=some (.cells (siL d))→bget bx 20=some (.map (nmD (seenN (dd.sigs.take j))))→K3 sl bx:=fun sl bx g1 g2 g3 g4 g5 g6 g7 g8 g9 g10 g11 g12 g13=>by
    refine u3 _ _ ?_
    refine AWp.weaken (sl':=[(3,.box 3 0),(6,.box 6 0),(8,.acc 8),(9,.mp 20),(11,.box 11 0),(22,.d (.slice (siR dd.sigs))),(23,intV dd.sigs.length),(24,intV j)])
     (bx':=[(3,.cells ((tyC x).map .d)),(6,.cells ((deC dd).map .d)),(8,.rows 7 (siR (specL (fnames dd.formals) x.args dd.sigs (j+1)))),(11,.cells (siL d)),(20,.map (nmD (seenN (dd.sigs.take j))))]) (by simp [sle,vle,g1,g2,g3,g4,g5,g6,g7,g8]) (by simp [ble,g9,g10,g11,g12,g13]) ?_
    (refine lQ q1J fun K z=>?_;simp -implicitDefEqProofs only [EV,forall_const,implies_true,Nat.reduceAdd,Nat.reduceEqDiff,Nat.reduceBEq,Nat.reduceLeDiff,Nat.reduceSub,Nat.reduceMul,Int.reduceEq,Int.reduceLT,Int.reduceLE,Int.reduceSub,Int.reduceAdd,Int.reduceToNat,reduceCtorEq,Int.reduceNeg,TF3,TF4,TF9,TF23,TF25,TF49,TF52,TF58,TF61,TF147,TF227,kput_nmD];refine⟨hks,hk,?_⟩;(try simp -implicitDefEqProofs only [EV,forall_const,implies_true,Nat.reduceAdd,Nat.reduceEqDiff,Nat.reduceBEq,Nat.reduceLeDiff,Nat.reduceSub,Nat.reduceMul,Int.reduceEq,Int.reduceLT,Int.reduceLE,Int.reduceSub,Int.reduceAdd,Int.reduceToNat,reduceCtorEq,Int.reduceNeg,TF3,TF4,TF9,TF23,TF25,TF49,TF52,TF58,TF61,TF147,TF227,kput_nmD]);apply z;clear z K;try simp only [thenA,blockA,if_true])
    refine u2 _ _ ?_
    (refine lV q1J fun K z=>?_;refine cl ?_;apply z;clear z K;try simp only [thenA,blockA,if_true])
    exact⟨(),trivial,sS,by simp [ble,bget,hseen,tyC,deC]⟩
   by_cases hin:d.name∈seenN (dd.sigs.take j)
   ·rw [decide_eq_true hin]
    refine AWp.condF rfl (AWp.skip (fin _ _ rfl rfl rfl rfl rfl rfl rfl rfl rfl rfl (by rw [hsucc,hnew,decide_eq_true hin];simp [bget]) rfl rfl))
   ·rw [decide_eq_false hin]
    refine AWp.condT rfl ?_
    have hn:newB dd.sigs d j=true:=by rw [hnew,decide_eq_false hin];rfl
    rw [hn,if_pos rfl] at hsucc
    (refine lG q1J [] 10 [] fun K z=>?_;refine ev ?_;refine cc (ok_BCanon d hdm) ?_;refine cc (ok_Names dd.formals hddm.formals.1) ?_;refine cc (ok_BSubst (fnames dd.formals) x.args hx.arg _ hdm.canon) ?_;refine⟨by simp,by unfold lim sm at *;omega,?_⟩;(try refine ev ?_);apply z;clear z K;try simp only [thenA,blockA,if_true])
    exact fin _ _ rfl rfl rfl rfl rfl rfl rfl rfl rfl rfl (by rw [hsucc];simp [bget,siR_append,siR,siC]) rfl rfl
 ·rw [hi] at hin
  rw [if_neg (by rw [hi];decide),hi]
  refine bB func117 ?_
  refine sR q1J ?_
  refine sC hin q1J ?_
  refine kR q1J fun K1 u1=>?_
  refine tI ?_
  refine sR q1J ?_
  refine AWp.promote 8 7 4 rfl ?_
  exact AWp.ret ⟨_,by rw [results117];rfl,.inl rfl,by simp [ble,bget,siR]⟩
abbrev q2J:List Nat:=[0,1,2,3,4,5,6,7,8,9,22,27,42,43]
theorem ok_RSpecs (p:Prog)(h:p.Sm)(x:Ty)(hx:x.Sm)(hi:instB p x 2=true):CallB prog 97 [prV p,tyV x] [] (.acc 6) [(6,.rows 7 (siR (specsT p x)))]:=by
 unfold specsT
 rw [if_pos hi]
 obtain⟨dd,hdd,_⟩:=inst_decl (by decide) hi
 rw [hdd,Option.getD_some]
 have hddm:=h.decls.2 dd (declT_mem hdd)
 have hsl:=hddm.sigs.1
 have hfi:=ok_Find p x.name
 obtain⟨k,hkd,hk2⟩:∃ k:Nat,p.decls[k]? = some dd∧findD x.name p.decls 0=k:=by
  rcases findD_find x.name p.decls 0 with ⟨h1,h2⟩ | ⟨k,d,h1,h2,h3⟩
  ·unfold declT at hdd;rw [h2] at hdd;simp at hdd
  ·unfold declT at hdd;rw [h3] at hdd;simp only [Option.some.injEq] at hdd;subst hdd
   exact⟨k,h1,by rw [h2];simp⟩
 rw [hk2] at hfi
 unfold specsD
 refine bB func97 ?_
 refine sR q2J ?_
 (refine sG q2J [] 9 [⟨[],[],[5],[5]⟩,⟨[],[],[5],[5]⟩,⟨[],[],[5],[5]⟩,⟨[],[],[5],[5]⟩,⟨[],[],[5],[5]⟩,⟨[],[],[5],[5]⟩,⟨[],[],[5],[5]⟩,⟨[],[],[5],[5]⟩,⟨[5],[5],[],[]⟩] fun K z=>?_;refine ev ?_;refine cc hfi ?_;refine ci (deR_get hkd) ?_;apply z;clear z K)
 refine sR q2J ?_
 refine AWp.promote 6 7 6 rfl ?_
 refine kR q2J fun K1 u1=>?_
 refine AWp.block (AWp.forIdx dd.sigs (X:=Unit) (fun j _=>[(3,.box 3 0),(5,.box 5 0),(6,.acc 6),(7,intV j)])
  (fun j _=>[(3,.cells ((tyC x).map .d)),(5,.cells ((deC dd).map .d)),(6,.rows 7 (siR (specL (fnames dd.formals) x.args dd.sigs j)))])
  (fun j _=>True) () trivial sS (by simp [ble,bget,berase,specL,siR,deC,tyC]) ?_ ?_)
 ·intro _ _
  refine kR1 Int.lt_irrefl q2J fun K2 u2=>?_
  refine AWp.stopK rfl ?_
  simp only [thenA,blockA,if_true]
  refine u1 _ _ ?_
  refine sR q2J ?_
  exact AWp.ret ⟨_,by rw [results97];rfl,.inl rfl,by simp [ble,bget]⟩
 ·intro j _ d hd hmem dp tk hlt hI
  have hlen:=specL_len (fnames dd.formals) x.args dd.sigs j
  have hsucc:=specL_succ (vars:=fnames dd.formals) (args:=x.args) (by omega) tk
  have hdm:=hddm.sigs.2 d hmem
  have hjl:(dd.sigs.take j).length=j:=by rw [List.length_take];omega
  refine kR1 hlt q2J fun K2 u2=>?_
  refine gI u2 ?_
  clear u2 K2
  refine sK fun K2 u2=>?_
  refine AWp.block ?_
  refine sR q2J ?_
  refine kR q2J fun K3 u3=>?_
  refine AWp.block (AWp.forIdx (dd.sigs.take j) (X:=Unit) (fun i _=>[(3,.box 3 0),(5,.box 5 0),(6,.acc 6),(7,intV j),(8,boolV (newB (dd.sigs.take j) d i)),(9,intV i)])
   (fun _ _=>[(3,.cells ((tyC x).map .d)),(5,.cells ((deC dd).map .d)),(6,.rows 7 (siR (specL (fnames dd.formals) x.args dd.sigs j)))])
   (fun _ _=>True) () trivial (by simp [sle,vle,sget,newB]) (by simp [ble,bget,berase,deC,tyC]) ?_ ?_)
  ·intro _ _
   have hnb:newB (dd.sigs.take j) d (dd.sigs.take j).length=newB dd.sigs d j:=by unfold newB;rw [List.take_length]
   rw [hnb,hjl]
   refine kR1 Int.lt_irrefl q2J fun K4 u4=>?_
   refine AWp.stopK rfl ?_
   simp only [thenA,blockA,if_true]
   refine u3 _ _ ?_
   clear u4 K4 u3 K3
   refine sR q2J ?_
   rcases Bool.eq_false_or_eq_true (newB dd.sigs d j) with hn | hn
   ·rw [hn,if_pos rfl] at hsucc
    rw [hn]
    refine AWp.condT rfl ?_
    (refine lG q2J [] 14 [] fun K z=>?_;refine ev ?_;refine ci (siR_get hd) ?_;refine cc (ok_RCanon d hdm) ?_;refine cc (ok_RefNames dd.formals hddm.formals.1) ?_;refine cc (ok_RefSubst (fnames dd.formals) x.args hx.arg _ hdm.canon) ?_;refine⟨by simp,by unfold lim sm at *;omega,?_⟩;(try refine ev ?_);apply z;clear z K;try simp only [thenA,blockA,if_true])
    refine u2 _ _ ?_
    clear u2 K2
    (refine lV q2J fun K z=>?_;refine cl ?_;apply z;clear z K;try simp only [thenA,blockA,if_true])
    exact⟨(),trivial,sS,by simp [ble,bget,hsucc,siR_append,siR,siC,deC,tyC]⟩
   ·rw [hn,if_neg (by decide),List.append_nil] at hsucc
    rw [hn]
    refine AWp.condF rfl (AWp.skip (u2 _ _ ?_))
    clear u2 K2
    (refine lV q2J fun K z=>?_;refine cl ?_;apply z;clear z K;try simp only [thenA,blockA,if_true])
    exact⟨(),trivial,sS,by simp [ble,bget,hsucc,deC,tyC]⟩
  ·intro i _ e he hem hed het hil hI2
   rw [hjl] at hil
   have hes:dd.sigs[i]? = some e:=by rw [List.getElem?_take_of_lt (by omega)] at he;exact he
   have hnb:newB (dd.sigs.take j) d (i+1)=(newB (dd.sigs.take j) d i && !decide (e.name=d.name)):=by
    unfold newB
    rw [het,Bool.eq_iff_iff]
    simp only [decide_eq_true_eq,List.mem_append,List.mem_cons,List.not_mem_nil,or_false,Bool.and_eq_true,Bool.not_eq_true',decide_eq_false_iff_not]
    exact⟨fun h=>⟨fun y hy=>h y (.inl hy),h e (.inr rfl)⟩,fun h y hy=>hy.elim (h.1 y) (fun he=>he ▸ h.2)⟩
   refine kR1 hil q2J fun K4 u4=>?_
   refine gI u4 ?_
   clear u4 K4
   refine sK fun K4 u4=>?_
   refine AWp.block ?_
   by_cases hn:e.name=d.name
   ·rw [decide_eq_true hn,Bool.not_true,Bool.and_false] at hnb
    (refine sG q2J [] 12 [] fun K z=>?_;refine ev1 hn ?_;refine⟨by omega,_,siR_get hes,rfl,?_⟩;(try refine ev1 hn ?_);refine⟨by omega,_,siR_get hd,rfl,?_⟩;(try refine ev1 hn ?_);apply z;clear z K)
    refine AWp.condT rfl ?_
    (refine lV q2J fun K z=>?_;apply z;clear z K;try simp only [thenA,blockA,if_true])
    refine u4 _ _ ?_
    clear u4 K4
    (refine lV q2J fun K z=>?_;refine cl ?_;apply z;clear z K;try simp only [thenA,blockA,if_true])
    exact⟨(),trivial,(by simp [sle,vle,sget,hnb]),by simp [ble,bget,deC,tyC]⟩
   ·rw [decide_eq_false hn,Bool.not_false,Bool.and_true] at hnb
    (refine sG q2J [] 12 [] fun K z=>?_;refine ev1 hn ?_;refine⟨by omega,_,siR_get hes,rfl,?_⟩;(try refine ev1 hn ?_);refine⟨by omega,_,siR_get hd,rfl,?_⟩;(try refine ev1 hn ?_);apply z;clear z K)
    refine AWp.condF rfl (AWp.skip (u4 _ _ ?_))
    clear u4 K4
    (refine lV q2J fun K z=>?_;refine cl ?_;apply z;clear z K;try simp only [thenA,blockA,if_true])
    exact⟨(),trivial,(by simp [sle,vle,sget,hnb]),by simp [ble,bget,deC,tyC]⟩
end Go.Abs
