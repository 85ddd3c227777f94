/- mangle.Expr, given what becomes of types and names; mangle of a type without arguments -/
import Derived.Test.YtfjaahliphbklaaGreatDoorJS93
import Derived.Test.YtfjaahliphbklaaGreatDoorJS44
import Derived.Test.YtfjaahliphbklaaGreatDoorJS51
namespace Go.Abs
set_option linter.unusedSimpArgs false
set_option linter.unusedVariables false
open Go Go.Proofs Tryz
set_option maxRecDepth 100000
set_option maxHeartbeats 1000000
def F6y (mt:Ty→Ty)(mm:Str→List Ty→Str)(k:Int)(n:Str)(t:Ty)(a:List Ty)(ks:List Ex)(q:Int):Ex :=
 if k=3∨k=5 then .mk k n (mt t) a ks q else if k=2 then .mk k (mm n a) t [] ks q else .mk k n t a ks q
mutual
def B4s (mt:Ty→Ty)(mm:Str→List Ty→Str):Ex→Ex
 | .mk k n t a ks q=>F6y mt mm k n t a (G3z mt mm ks) q
def G3z (mt:Ty→Ty)(mm:Str→List Ty→Str):List Ex→List Ex
 | []=>[]
 | e::es=>B4s mt mm e::G3z mt mm es
end
theorem E6x (mt:Ty→Ty)(mm:Str→List Ty→Str):∀ l:List Ex,G3z mt mm l=l.map (B4s mt mm)
 | []=>rfl
 | t::ts=>by rw [G3z,E6x mt mm ts,List.map_cons]
theorem E7d (mt:Ty→Ty)(mm:Str→List Ty→Str)(e:Ex):B4s mt mm e=F6y mt mm e.kind e.name e.type e.targs (e.kids.map (B4s mt mm)) e.pos:=by cases e with | mk k n t a ks q=>rw [B4s,E6x];rfl
inductive MOK (mt:Ty→Ty) (mm:Str→List Ty→Str):Ex→Prop where
 | mk (k:Int) (n:Str) (t:Ty) (a:List Ty) (ks:List Ex) (q:Int):(k=3∨k=5→A0a prog 59 [tyV t] (tyV (mt t)))→(k=2→A0a prog 60 [A2d n,.d (.slice (tyR a))] (A2d (mm n a))) →
   (∀ e,e∈ks→MOK mt mm e)→MOK mt mm (.mk k n t a ks q)
theorem MOK.kids {mt:Ty→Ty} {mm:Str→List Ty→Str} {e:Ex} (h:MOK mt mm e):∀ x,x∈e.kids→MOK mt mm x:=by cases h;assumption
theorem MOK.plain {mt:Ty→Ty} {mm:Str→List Ty→Str} {e:Ex} (h:MOK mt mm e):e.kind=3∨e.kind=5→A0a prog 59 [tyV e.type] (tyV (mt e.type)):=by cases h;assumption
theorem MOK.meth {mt:Ty→Ty} {mm:Str→List Ty→Str} {e:Ex} (h:MOK mt mm e):e.kind=2→A0a prog 60 [A2d e.name,.d (.slice (tyR e.targs))] (A2d (mm e.name e.targs)):=by cases h;assumption
abbrev A5h:List Nat:=[0,1,2,3,5,10,11,12,13,25,26,33,67]
theorem E0d (mt:Ty→Ty)(mm:Str→List Ty→Str):∀ e:Ex,e.Sm→MOK mt mm e→A0a prog 22 [exV e] (exV (B4s mt mm e)):=by
 intro e
 induction e using Ex.induct with
 | h e ih =>
 intro hs hm;have hkl:=hs.kids.1;have hcl:=C1p e hs;rw [E7d];unfold F6y;by_cases k3:e.kind=3
 ·have hx:exV e=.agg [.d (.int .i64 3),.d (.str e.name),.d (.str e.type.name),.d (.slice (tyR e.type.args)),.d (.int .i64 e.type.pos),.d (.slice (tyR e.targs)),.d (.slice (exR e.kids)),.d (.int .i64 e.pos)]:=by rw [← k3]
  have hp:=hm.plain (.inl k3);rw [if_pos (.inl k3),k3];rw [hx] at hcl ⊢;refine cB func22 ?_;refine sR A5h ?_;refine sC hcl A5h ?_;refine sR A5h ?_;refine AWp.promoteBox 67 8 3 6 rfl rfl (by decide) ?_;refine kR A5h fun K1 u1=>?_;refine AWp.bb (AWp.ii e.kids (X:=Unit) (fun j _=>[(1,.box 1 0),(2,.box 2 0),(3,.box 3 0),(10,.d (.slice (exR e.kids))),(11,A0g e.kids.length),(12,A0g j)])
   (fun j _=>[(1,.cells [.d (.int .i64 3),.d (.str e.name),.d (.str e.type.name),.d (.slice (tyR e.type.args)),.d (.int .i64 e.type.pos),.d (.slice (tyR e.targs)),.d (.slice (exR e.kids)),.d (.int .i64 e.pos)]),
    (2,.cells [.d (.int .i64 0),.d (.str []),.d (.str []),.d .nil,.d (.int .i64 0),.d .nil,.d .nil,.d (.int .i64 0)]),
    (3,.cells [.d (.int .i64 3),.d (.str e.name),.d (.str e.type.name),.d (.slice (tyR e.type.args)),.d (.int .i64 e.type.pos),.d (.slice (tyR e.targs)),.acc 67,.d (.int .i64 e.pos)]),(67,.rows 8 (exR ((e.kids.take j).map (B4s mt mm))))])
   (fun j _=>True) () trivial sS (by simp [ble,A0h,A2k]) ?_ ?_)
  rotate_left
  ·intro j _ d hd hmem dp tk hlt _;have hi:=ih d hmem (hs.kids.2 d hmem) (hm.kids d hmem);rw [tk];refine sR1 hlt A5h ?_;refine AWp.goOn rfl ?_;refine sK fun K2 u2=>?_;refine AWp.bb ?_
   (refine sV A5h fun K z=>?_;refine ci (A1h hd) ?_;apply z;clear z K)
   (refine lG A5h [] 5 [] fun K z=>?_;refine ev ?_;refine cc hi ?_;refine⟨by simp,by simp only [List.length_map,List.length_take];unfold lim sm at *;omega,?_⟩;(try refine ev ?_);apply z;clear z K;try simp only [A0c,A0e])
   refine u2 _ _ ?_;clear u2 K2;refine lT A5h ?_;exact⟨(),trivial,sS,by simp [ble,A0h,A2k,exC]⟩
  intro _ _;rw [List.take_length];refine sR1 Int.lt_irrefl A5h ?_;refine AWp.stop rfl ?_;simp only [TB];refine u1 _ _ ?_;clear u1 K1;refine kR A5h fun K1 u1=>?_;refine AWp.bb ?_;refine kR A5h fun K2 u2=>?_;refine AWp.tt rfl (AWp.kk (u2 _ _ ?_));clear u2 K2;refine AWp.tt rfl ?_
  (refine lV A5h fun K z=>?_;refine cc hp ?_;apply z;clear z K;try simp only [A0c,A0e])
  refine u1 _ _ ?_;refine sR A5h ?_;exact aR
 by_cases k5:e.kind=5
 ·have hx:exV e=.agg [.d (.int .i64 5),.d (.str e.name),.d (.str e.type.name),.d (.slice (tyR e.type.args)),.d (.int .i64 e.type.pos),.d (.slice (tyR e.targs)),.d (.slice (exR e.kids)),.d (.int .i64 e.pos)]:=by rw [← k5]
  have hp:=hm.plain (.inr k5);rw [if_pos (.inr k5),k5];rw [hx] at hcl ⊢;refine cB func22 ?_;refine sR A5h ?_;refine sC hcl A5h ?_;refine sR A5h ?_;refine AWp.promoteBox 67 8 3 6 rfl rfl (by decide) ?_;refine kR A5h fun K1 u1=>?_;refine AWp.bb (AWp.ii e.kids (X:=Unit) (fun j _=>[(1,.box 1 0),(2,.box 2 0),(3,.box 3 0),(10,.d (.slice (exR e.kids))),(11,A0g e.kids.length),(12,A0g j)])
   (fun j _=>[(1,.cells [.d (.int .i64 5),.d (.str e.name),.d (.str e.type.name),.d (.slice (tyR e.type.args)),.d (.int .i64 e.type.pos),.d (.slice (tyR e.targs)),.d (.slice (exR e.kids)),.d (.int .i64 e.pos)]),
    (2,.cells [.d (.int .i64 0),.d (.str []),.d (.str []),.d .nil,.d (.int .i64 0),.d .nil,.d .nil,.d (.int .i64 0)]),
    (3,.cells [.d (.int .i64 5),.d (.str e.name),.d (.str e.type.name),.d (.slice (tyR e.type.args)),.d (.int .i64 e.type.pos),.d (.slice (tyR e.targs)),.acc 67,.d (.int .i64 e.pos)]),(67,.rows 8 (exR ((e.kids.take j).map (B4s mt mm))))])
   (fun j _=>True) () trivial sS (by simp [ble,A0h,A2k]) ?_ ?_)
  rotate_left
  ·intro j _ d hd hmem dp tk hlt _;have hi:=ih d hmem (hs.kids.2 d hmem) (hm.kids d hmem);rw [tk];refine sR1 hlt A5h ?_;refine AWp.goOn rfl ?_;refine sK fun K2 u2=>?_;refine AWp.bb ?_
   (refine sV A5h fun K z=>?_;refine ci (A1h hd) ?_;apply z;clear z K)
   (refine lG A5h [] 5 [] fun K z=>?_;refine ev ?_;refine cc hi ?_;refine⟨by simp,by simp only [List.length_map,List.length_take];unfold lim sm at *;omega,?_⟩;(try refine ev ?_);apply z;clear z K;try simp only [A0c,A0e])
   refine u2 _ _ ?_;clear u2 K2;refine lT A5h ?_;exact⟨(),trivial,sS,by simp [ble,A0h,A2k,exC]⟩
  intro _ _;rw [List.take_length];refine sR1 Int.lt_irrefl A5h ?_;refine AWp.stop rfl ?_;simp only [TB];refine u1 _ _ ?_;clear u1 K1;refine kR A5h fun K1 u1=>?_;refine AWp.bb ?_;refine kR A5h fun K2 u2=>?_;refine AWp.ff rfl ?_
  (refine lV A5h fun K z=>?_;apply z;clear z K;try simp only [A0c,])
  refine u2 _ _ ?_;clear u2 K2;refine AWp.tt rfl ?_
  (refine lV A5h fun K z=>?_;refine cc hp ?_;apply z;clear z K;try simp only [A0c,A0e])
  refine u1 _ _ ?_;refine sR A5h ?_;exact aR
 rw [if_neg (by omega)];by_cases k2:e.kind=2
 ·have hx:exV e=.agg [.d (.int .i64 2),.d (.str e.name),.d (.str e.type.name),.d (.slice (tyR e.type.args)),.d (.int .i64 e.type.pos),.d (.slice (tyR e.targs)),.d (.slice (exR e.kids)),.d (.int .i64 e.pos)]:=by rw [← k2]
  have hp:=hm.meth k2;rw [if_pos k2,k2];rw [hx] at hcl ⊢;refine cB func22 ?_;refine sR A5h ?_;refine sC hcl A5h ?_;refine sR A5h ?_;refine AWp.promoteBox 67 8 3 6 rfl rfl (by decide) ?_;refine kR A5h fun K1 u1=>?_;refine AWp.bb (AWp.ii e.kids (X:=Unit) (fun j _=>[(1,.box 1 0),(2,.box 2 0),(3,.box 3 0),(10,.d (.slice (exR e.kids))),(11,A0g e.kids.length),(12,A0g j)])
   (fun j _=>[(1,.cells [.d (.int .i64 2),.d (.str e.name),.d (.str e.type.name),.d (.slice (tyR e.type.args)),.d (.int .i64 e.type.pos),.d (.slice (tyR e.targs)),.d (.slice (exR e.kids)),.d (.int .i64 e.pos)]),
    (2,.cells [.d (.int .i64 0),.d (.str []),.d (.str []),.d .nil,.d (.int .i64 0),.d .nil,.d .nil,.d (.int .i64 0)]),
    (3,.cells [.d (.int .i64 2),.d (.str e.name),.d (.str e.type.name),.d (.slice (tyR e.type.args)),.d (.int .i64 e.type.pos),.d (.slice (tyR e.targs)),.acc 67,.d (.int .i64 e.pos)]),(67,.rows 8 (exR ((e.kids.take j).map (B4s mt mm))))])
   (fun j _=>True) () trivial sS (by simp [ble,A0h,A2k]) ?_ ?_)
  rotate_left
  ·intro j _ d hd hmem dp tk hlt _;have hi:=ih d hmem (hs.kids.2 d hmem) (hm.kids d hmem);rw [tk];refine sR1 hlt A5h ?_;refine AWp.goOn rfl ?_;refine sK fun K2 u2=>?_;refine AWp.bb ?_
   (refine sV A5h fun K z=>?_;refine ci (A1h hd) ?_;apply z;clear z K)
   (refine lG A5h [] 5 [] fun K z=>?_;refine ev ?_;refine cc hi ?_;refine⟨by simp,by simp only [List.length_map,List.length_take];unfold lim sm at *;omega,?_⟩;(try refine ev ?_);apply z;clear z K;try simp only [A0c,A0e])
   refine u2 _ _ ?_;clear u2 K2;refine lT A5h ?_;exact⟨(),trivial,sS,by simp [ble,A0h,A2k,exC]⟩
  intro _ _;rw [List.take_length];refine sR1 Int.lt_irrefl A5h ?_;refine AWp.stop rfl ?_;simp only [TB];refine u1 _ _ ?_;clear u1 K1;refine kR A5h fun K1 u1=>?_;refine AWp.bb ?_;refine kR A5h fun K2 u2=>?_;refine AWp.ff rfl ?_
  (refine lV A5h fun K z=>?_;apply z;clear z K;try simp only [A0c,])
  refine u2 _ _ ?_;clear u2 K2;refine AWp.ff rfl ?_;refine sR A5h ?_;refine AWp.tt rfl ?_
  (refine lV A5h fun K z=>?_;refine cc hp ?_;apply z;clear z K;try simp only [A0c,A0e])
  refine u1 _ _ ?_;refine sR A5h ?_;exact aR
 rw [if_neg k2];refine cB func22 ?_;refine sR A5h ?_;refine sC hcl A5h ?_;refine sR A5h ?_;refine AWp.promoteBox 67 8 3 6 rfl rfl (by decide) ?_;refine kR A5h fun K1 u1=>?_;refine AWp.bb (AWp.ii e.kids (X:=Unit) (fun j _=>[(1,.box 1 0),(2,.box 2 0),(3,.box 3 0),(10,.d (.slice (exR e.kids))),(11,A0g e.kids.length),(12,A0g j)])
  (fun j _=>[(1,.cells [.d (.int .i64 e.kind),.d (.str e.name),.d (.str e.type.name),.d (.slice (tyR e.type.args)),.d (.int .i64 e.type.pos),.d (.slice (tyR e.targs)),.d (.slice (exR e.kids)),.d (.int .i64 e.pos)]),
   (2,.cells [.d (.int .i64 0),.d (.str []),.d (.str []),.d .nil,.d (.int .i64 0),.d .nil,.d .nil,.d (.int .i64 0)]),
   (3,.cells [.d (.int .i64 e.kind),.d (.str e.name),.d (.str e.type.name),.d (.slice (tyR e.type.args)),.d (.int .i64 e.type.pos),.d (.slice (tyR e.targs)),.acc 67,.d (.int .i64 e.pos)]),(67,.rows 8 (exR ((e.kids.take j).map (B4s mt mm))))])
  (fun j _=>True) () trivial sS (by simp [ble,A0h,A2k]) ?_ ?_)
 rotate_left
 ·intro j _ d hd hmem dp tk hlt _;have hi:=ih d hmem (hs.kids.2 d hmem) (hm.kids d hmem);rw [tk];refine sR1 hlt A5h ?_;refine AWp.goOn rfl ?_;refine sK fun K2 u2=>?_;refine AWp.bb ?_
  (refine sV A5h fun K z=>?_;refine ci (A1h hd) ?_;apply z;clear z K)
  (refine lG A5h [] 5 [] fun K z=>?_;refine ev ?_;refine cc hi ?_;refine⟨by simp,by simp only [List.length_map,List.length_take];unfold lim sm at *;omega,?_⟩;(try refine ev ?_);apply z;clear z K;try simp only [A0c,A0e])
  refine u2 _ _ ?_;clear u2 K2;refine lT A5h ?_;exact⟨(),trivial,sS,by simp [ble,A0h,A2k,exC]⟩
 intro _ _;rw [List.take_length];refine sR1 Int.lt_irrefl A5h ?_;refine AWp.stop rfl ?_;simp only [TB];refine u1 _ _ ?_;clear u1 K1;refine kR A5h fun K1 u1=>?_;refine AWp.bb ?_;refine kR1 k3 A5h fun K2 u2=>?_;refine AWp.ff rfl ?_
 (refine lQ A5h fun K z=>?_;refine ev1 k5 ?_;apply z;clear z K;try simp only [A0c,])
 refine u2 _ _ ?_;clear u2 K2;refine AWp.ff rfl ?_;refine sR1 k2 A5h ?_;refine AWp.ff rfl (AWp.kk (u1 _ _ ?_));refine sR A5h ?_;exact aR
structure OwnName (n:Str):Prop where
 len:n.length≤sm
 noD:Lib.hasPrefix n [36]=false
 noN:F1w n=true
 noU:Lib.countByte n 95=0
theorem A7e (v:List Str)(a:List Ty)(e:Ex):e.subst v a=.mk e.kind e.name (e.type.subst v a) (e.targs.map (Ty.subst v a)) (e.kids.map (Ex.subst v a)) e.pos:=by unfold Ex.subst;rw [A9m];cases e;rfl
theorem F5q (names:List Str)(vals:List Ex)(e:Ex):e.repl names vals=F9o names vals (e.kidded (e.kids.map (Ex.repl names vals))):=by unfold Ex.repl;rw [A9m]
theorem Ex.Shp.of {e:Ex} (h1:e.kind=1∨e.kind=2∨e.kind=3∨e.kind=4∨e.kind=5)(h2:e.kind=2∨e.kind=4∨e.kind=5→e.kids≠[])(h3:e.kind=5→e.name=[])(h4:∀ x,x∈e.kids→x.Shp):e.Shp:=by cases e with | mk k n t a ks q=>exact .mk k n t a ks q h1 h2 h3 h4
theorem Ex.Shp.some' {e:Ex} (h:e.Shp):e.kind=2∨e.kind=4∨e.kind=5→e.kids≠[]:=fun hk hn=>by obtain⟨v,hv⟩:=h.some hk;rw [hn] at hv;cases hv
theorem Ex.right_Shp:∀ e:Ex,e.right=true→e.Shp:=by
 intro e
 induction e using Ex.induct with | _ e ih=>?_
 intro h;rw [Ex.right_eq,Bool.and_eq_true,Bool.and_eq_true] at h;have hk:e.kindB=true:=by have:=h.2.2;unfold Ex.right1 at this;split at this <;> (simp only [Bool.and_eq_true] at this;exact this.2)
 have hn:e.kind=5→e.name=[]:=fun h5=>by
  have:=h.2.2;have ht:e.typed=true:=by unfold Ex.typed;rw [h5];rfl
  unfold Ex.right1 at this;rw [if_pos ht] at this;simp only [Bool.and_eq_true,decide_eq_true_eq] at this;exact this.1.2
 refine .of ?_ (fun h2 hz=>?_) hn fun x hx=>ih x hx (B2z h.1 x hx)
 ·unfold Ex.kindB at hk;by_cases c1:e.kind=1
  ·exact .inl c1
  ·by_cases c2:e.kind=2
   ·exact .inr (.inl c2)
   ·by_cases c3:e.kind=3
    ·exact .inr (.inr (.inl c3))
    ·rw [if_neg c1,if_neg c2,if_neg c3] at hk;by_cases c4:e.kind=4∨e.kind=5
     ·exact .inr (.inr (.inr c4))
     ·rw [if_neg c4] at hk;cases hk
 ·unfold Ex.kindB at hk;have hl:e.kids.length=0:=by rw [hz];rfl
  by_cases c2:e.kind=2
  ·rw [if_neg (by omega),if_pos c2,decide_eq_true_eq] at hk;omega
  ·rw [if_neg (by omega),if_neg c2,if_neg (by omega),if_pos (by omega),decide_eq_true_eq] at hk;omega
theorem Ex.Shp.subst (v:List Str)(a:List Ty):∀ {e:Ex},e.Shp→(e.subst v a).Shp:=by
 intro e
 induction e using Ex.induct with | _ e ih=>?_
 intro h;rw [A7e];refine .mk _ _ _ _ _ _ h.kind (fun hk hn=>h.some' hk (List.map_eq_nil_iff.1 hn)) h.name fun x hx=>?_;obtain⟨y,hy,rfl⟩:=List.mem_map.1 hx;exact ih y hy (h.kids y hy)
theorem Ex.Shp.repl {names:List Str} {vals:List Ex} (hv:∀ x,x∈vals→x.Shp):∀ {e:Ex},e.Shp→(e.repl names vals).Shp:=by
 intro e
 induction e using Ex.induct with | _ e ih=>?_
 intro h;rw [F5q];have hk:(e.kidded (e.kids.map (Ex.repl names vals))).Shp:=.mk _ _ _ _ _ _ h.kind (fun hk hn=>h.some' hk (List.map_eq_nil_iff.1 hn)) h.name fun x hx=>by obtain⟨y,hy,rfl⟩:=List.mem_map.1 hx;exact ih y hy (h.kids y hy)
 unfold F9o;split
 ·cases hg:vals[(A1b (e.kidded (e.kids.map (Ex.repl names vals))).name names 0).toNat]? with
  | none=>exact hk
  | some u=>exact hv u (List.mem_of_getElem? hg)
 ·exact hk
theorem D4j {p:Prog} (hr:p.right=true):∀ d,d∈p.decls→d.kind=3→d.body.Shp:=fun d hd hk=>by unfold Prog.right at hr;simp only [Bool.and_eq_true,List.all_eq_true] at hr;have:=hr.1 d hd;unfold Decl.right Decl.right3 at this;rw [if_pos hk] at this;simp only [Bool.and_eq_true] at this;exact Ex.right_Shp _ this.2.2.2.2.2.2.2.2
theorem E4g {p:Prog} (hr:p.right=true):p.main.Shp:=by unfold Prog.right at hr;simp only [Bool.and_eq_true] at hr;exact Ex.right_Shp _ hr.2
mutual
theorem Ty.count_tlen:∀ (t:Ty)(k:Int),t.count k≤2000→(t.tlen:Int)≤60*(t.count k - k)
 | .mk n a p,k,h=>by simp only [Ty.count] at h ⊢;have h2:=Ty.countL_tlen a (k+1+((n.length / 50:Nat):Int)) h;rw [Ty.tlen];omega
theorem Ty.countL_tlen:∀ (l:List Ty)(k:Int),Ty.countL l k≤2000→(Ty.tlenL l:Int)≤60*(Ty.countL l k - k)
 | [],k,_=>by simp [Ty.countL,Ty.tlenL]
 | t::ts,k,h=>by
  simp only [Ty.countL] at h ⊢;split at h
  ·rename_i hk;rw [if_pos hk];have h1:=Ty.countL_ge ts (t.count k);have h2:=Ty.countL_tlen ts (t.count k) h;have h3:=Ty.count_tlen t k (by omega);rw [Ty.tlenL];omega
  ·omega
end
mutual
theorem Ex.count_xlen:∀ (e:Ex)(k:Int),e.count k≤2000→(e.xlen:Int)≤120*(e.count k - k)
 | .mk kd n t a ks p,k,h=>by simp only [Ex.count] at h ⊢;have h1:=Ty.count_ge t (k+((n.length / 50:Nat):Int));have h2:=Ty.countL_ge a (t.count (k+((n.length / 50:Nat):Int)));have h3:=Ex.countL_ge ks (Ty.countL a (t.count (k+((n.length / 50:Nat):Int))));have g1:=Ty.count_tlen t (k+((n.length / 50:Nat):Int)) (by omega);have g2:=Ty.countL_tlen a (t.count (k+((n.length / 50:Nat):Int))) (by omega);have g3:=Ex.countL_xlen ks (Ty.countL a (t.count (k+((n.length / 50:Nat):Int)))) h;rw [Ex.xlen];omega
theorem Ex.countL_xlen:∀ (l:List Ex)(k:Int),Ex.countL l k≤2000→(Ex.xlenL l:Int)≤120*(Ex.countL l k - k)
 | [],k,_=>by simp [Ex.countL,Ex.xlenL]
 | t::ts,k,h=>by
  simp only [Ex.countL] at h ⊢;split at h
  ·rename_i hk;rw [if_pos hk];have h1:=Ex.countL_ge ts (t.count k);have h2:=Ex.countL_xlen ts (t.count k) h;have h3:=Ex.count_xlen t k (by omega);rw [Ex.xlenL];omega
  ·omega
end
end Go.Abs
