/- mangle.Expr, given what becomes of types and names; mangle of a type without arguments -/
import Derived.Test.YtbhbfpjnenekpaaGreatDoorUS93
import Derived.Test.YtbhbfpjnenekpaaGreatDoorUSB
import Derived.Test.YtbhbfpjnenekpaaGreatDoorUS45
import Derived.Test.YtbhbfpjnenekpaaGreatDoorUS49
import Derived.Test.YtbhbfpjnenekpaaGreatDoorUS51
import Derived.Test.YtbhbfpjnenekpaaGreatDoorUS61
import Derived.Test.YtbhbfpjnenekpaaGreatDoorUAb16
namespace Go.Abs
set_option linter.unusedSimpArgs false
set_option linter.unusedVariables false
open Go Go.Proofs Tryz
set_option maxRecDepth 100000
set_option maxHeartbeats 1000000
def mglOf (mt:Ty→Ty)(mm:Str→List Ty→Str)(k:Int)(n:Str)(t:Ty)(a:List Ty)(ks:List Ex)(q:Int):Ex :=
 if k=3∨k=5 then .mk k n (mt t) a ks q else if k=2 then .mk k (mm n a) t [] ks q else .mk k n t a ks q
mutual
def mglE (mt:Ty→Ty)(mm:Str→List Ty→Str):Ex→Ex
 | .mk k n t a ks q=>mglOf mt mm k n t a (mglL mt mm ks) q
def mglL (mt:Ty→Ty)(mm:Str→List Ty→Str):List Ex→List Ex
 | []=>[]
 | e::es=>mglE mt mm e::mglL mt mm es
end
theorem mglL_eq (mt:Ty→Ty)(mm:Str→List Ty→Str):∀ l:List Ex,mglL mt mm l=l.map (mglE mt mm)
 | []=>rfl
 | t::ts=>by rw [mglL,mglL_eq mt mm ts,List.map_cons]
theorem mglE_eq (mt:Ty→Ty)(mm:Str→List Ty→Str)(e:Ex):mglE mt mm e=mglOf mt mm e.kind e.name e.type e.targs (e.kids.map (mglE mt mm)) e.pos:=by
 cases e with | mk k n t a ks q=>rw [mglE,mglL_eq];rfl
inductive MOK (mt:Ty→Ty) (mm:Str→List Ty→Str):Ex→Prop where
 | mk (k:Int) (n:Str) (t:Ty) (a:List Ty) (ks:List Ex) (q:Int):(k=3∨k=5→CallOK prog 86 [tyV t] (tyV (mt t)))→(k=2→CallOK prog 87 [strV n,.d (.slice (tyR a))] (strV (mm n a))) →
   (∀ e,e∈ks→MOK mt mm e)→MOK mt mm (.mk k n t a ks q)
theorem MOK.kids {mt:Ty→Ty} {mm:Str→List Ty→Str} {e:Ex} (h:MOK mt mm e):∀ x,x∈e.kids→MOK mt mm x:=by cases h;assumption
theorem MOK.plain {mt:Ty→Ty} {mm:Str→List Ty→Str} {e:Ex} (h:MOK mt mm e):e.kind=3∨e.kind=5→CallOK prog 86 [tyV e.type] (tyV (mt e.type)):=by cases h;assumption
theorem MOK.meth {mt:Ty→Ty} {mm:Str→List Ty→Str} {e:Ex} (h:MOK mt mm e):e.kind=2→CallOK prog 87 [strV e.name,.d (.slice (tyR e.targs))] (strV (mm e.name e.targs)):=by cases h;assumption
abbrev q1ox:List Nat:=[0,1,2,3,5,10,11,12,13,25,26,33,67]
theorem ok_MExpr (mt:Ty→Ty)(mm:Str→List Ty→Str):∀ e:Ex,e.Sm→MOK mt mm e→CallOK prog 35 [exV e] (exV (mglE mt mm e)):=by
 intro e
 induction e using Ex.induct with
 | h e ih =>
 intro hs hm
 have hkl:=hs.kids.1
 have hcl:=ok_EClone e hs
 rw [mglE_eq]
 unfold mglOf
 by_cases k3:e.kind=3
 ·have hx:exV e=.agg [.d (.int .i64 3),.d (.str e.name),.d (.str e.type.name),.d (.slice (tyR e.type.args)),.d (.int .i64 e.type.pos),.d (.slice (tyR e.targs)),.d (.slice (exR e.kids)),.d (.int .i64 e.pos)]:=by rw [← k3]
  have hp:=hm.plain (.inl k3)
  rw [if_pos (.inl k3),k3]
  rw [hx] at hcl ⊢
  refine cB func35 ?_
  refine sR q1ox ?_
  refine sC hcl q1ox ?_
  refine sR q1ox ?_
  refine AWp.promoteBox 67 8 3 6 rfl rfl (by decide) ?_
  refine kR q1ox fun K1 u1=>?_
  refine AWp.block (AWp.forIdx e.kids (X:=Unit) (fun j _=>[(1,.box 1 0),(2,.box 2 0),(3,.box 3 0),(10,.d (.slice (exR e.kids))),(11,intV e.kids.length),(12,intV j)])
   (fun j _=>[(1,.cells [.d (.int .i64 3),.d (.str e.name),.d (.str e.type.name),.d (.slice (tyR e.type.args)),.d (.int .i64 e.type.pos),.d (.slice (tyR e.targs)),.d (.slice (exR e.kids)),.d (.int .i64 e.pos)]),
    (2,.cells [.d (.int .i64 0),.d (.str []),.d (.str []),.d .nil,.d (.int .i64 0),.d .nil,.d .nil,.d (.int .i64 0)]),
    (3,.cells [.d (.int .i64 3),.d (.str e.name),.d (.str e.type.name),.d (.slice (tyR e.type.args)),.d (.int .i64 e.type.pos),.d (.slice (tyR e.targs)),.acc 67,.d (.int .i64 e.pos)]),(67,.rows 8 (exR ((e.kids.take j).map (mglE mt mm))))])
   (fun j _=>True) () trivial sS (by simp [ble,bget,berase,exR_map]) ?_ ?_)
  rotate_left
  ·intro j _ d hd hmem dp tk hlt _
   have hi:=ih d hmem (hs.kids.2 d hmem) (hm.kids d hmem)
   rw [tk]
   refine sR1 hlt q1ox ?_
   refine AWp.goOn rfl ?_
   refine sK fun K2 u2=>?_
   refine AWp.block ?_
   (refine sV q1ox fun K z=>?_;refine ci (exR_get hd) ?_;apply z;clear z K)
   (refine lG q1ox [] 5 [] fun K z=>?_;refine ev ?_;refine cc hi ?_;refine⟨by simp,by simp only [List.length_map,List.length_take];unfold lim sm at *;omega,?_⟩;(try refine ev ?_);apply z;clear z K;try simp only [thenA,blockA,if_true])
   refine u2 _ _ ?_
   clear u2 K2
   (refine lV q1ox fun K z=>?_;refine cl ?_;apply z;clear z K;try simp only [thenA,blockA,if_true])
   exact⟨(),trivial,sS,by simp [ble,bget,exR_map,exC]⟩
  intro _ _
  rw [List.take_length]
  refine sR1 Int.lt_irrefl q1ox ?_
  refine AWp.stop rfl ?_
  simp only [thenA,blockA,if_true]
  refine u1 _ _ ?_
  clear u1 K1
  refine kR q1ox fun K1 u1=>?_
  refine AWp.block ?_
  refine kR q1ox fun K2 u2=>?_
  refine AWp.condT rfl (AWp.skip (u2 _ _ ?_))
  clear u2 K2
  refine AWp.condT rfl ?_
  (refine lV q1ox fun K z=>?_;refine cc hp ?_;apply z;clear z K;try simp only [thenA,blockA,if_true])
  refine u1 _ _ ?_
  refine sR q1ox ?_
  exact aR
 by_cases k5:e.kind=5
 ·have hx:exV e=.agg [.d (.int .i64 5),.d (.str e.name),.d (.str e.type.name),.d (.slice (tyR e.type.args)),.d (.int .i64 e.type.pos),.d (.slice (tyR e.targs)),.d (.slice (exR e.kids)),.d (.int .i64 e.pos)]:=by rw [← k5]
  have hp:=hm.plain (.inr k5)
  rw [if_pos (.inr k5),k5]
  rw [hx] at hcl ⊢
  refine cB func35 ?_
  refine sR q1ox ?_
  refine sC hcl q1ox ?_
  refine sR q1ox ?_
  refine AWp.promoteBox 67 8 3 6 rfl rfl (by decide) ?_
  refine kR q1ox fun K1 u1=>?_
  refine AWp.block (AWp.forIdx e.kids (X:=Unit) (fun j _=>[(1,.box 1 0),(2,.box 2 0),(3,.box 3 0),(10,.d (.slice (exR e.kids))),(11,intV e.kids.length),(12,intV j)])
   (fun j _=>[(1,.cells [.d (.int .i64 5),.d (.str e.name),.d (.str e.type.name),.d (.slice (tyR e.type.args)),.d (.int .i64 e.type.pos),.d (.slice (tyR e.targs)),.d (.slice (exR e.kids)),.d (.int .i64 e.pos)]),
    (2,.cells [.d (.int .i64 0),.d (.str []),.d (.str []),.d .nil,.d (.int .i64 0),.d .nil,.d .nil,.d (.int .i64 0)]),
    (3,.cells [.d (.int .i64 5),.d (.str e.name),.d (.str e.type.name),.d (.slice (tyR e.type.args)),.d (.int .i64 e.type.pos),.d (.slice (tyR e.targs)),.acc 67,.d (.int .i64 e.pos)]),(67,.rows 8 (exR ((e.kids.take j).map (mglE mt mm))))])
   (fun j _=>True) () trivial sS (by simp [ble,bget,berase,exR_map]) ?_ ?_)
  rotate_left
  ·intro j _ d hd hmem dp tk hlt _
   have hi:=ih d hmem (hs.kids.2 d hmem) (hm.kids d hmem)
   rw [tk]
   refine sR1 hlt q1ox ?_
   refine AWp.goOn rfl ?_
   refine sK fun K2 u2=>?_
   refine AWp.block ?_
   (refine sV q1ox fun K z=>?_;refine ci (exR_get hd) ?_;apply z;clear z K)
   (refine lG q1ox [] 5 [] fun K z=>?_;refine ev ?_;refine cc hi ?_;refine⟨by simp,by simp only [List.length_map,List.length_take];unfold lim sm at *;omega,?_⟩;(try refine ev ?_);apply z;clear z K;try simp only [thenA,blockA,if_true])
   refine u2 _ _ ?_
   clear u2 K2
   (refine lV q1ox fun K z=>?_;refine cl ?_;apply z;clear z K;try simp only [thenA,blockA,if_true])
   exact⟨(),trivial,sS,by simp [ble,bget,exR_map,exC]⟩
  intro _ _
  rw [List.take_length]
  refine sR1 Int.lt_irrefl q1ox ?_
  refine AWp.stop rfl ?_
  simp only [thenA,blockA,if_true]
  refine u1 _ _ ?_
  clear u1 K1
  refine kR q1ox fun K1 u1=>?_
  refine AWp.block ?_
  refine kR q1ox fun K2 u2=>?_
  refine AWp.condF rfl ?_
  (refine lV q1ox fun K z=>?_;apply z;clear z K;try simp only [thenA,blockA,if_true])
  refine u2 _ _ ?_
  clear u2 K2
  refine AWp.condT rfl ?_
  (refine lV q1ox fun K z=>?_;refine cc hp ?_;apply z;clear z K;try simp only [thenA,blockA,if_true])
  refine u1 _ _ ?_
  refine sR q1ox ?_
  exact aR
 rw [if_neg (by omega)]
 by_cases k2:e.kind=2
 ·have hx:exV e=.agg [.d (.int .i64 2),.d (.str e.name),.d (.str e.type.name),.d (.slice (tyR e.type.args)),.d (.int .i64 e.type.pos),.d (.slice (tyR e.targs)),.d (.slice (exR e.kids)),.d (.int .i64 e.pos)]:=by rw [← k2]
  have hp:=hm.meth k2
  rw [if_pos k2,k2]
  rw [hx] at hcl ⊢
  refine cB func35 ?_
  refine sR q1ox ?_
  refine sC hcl q1ox ?_
  refine sR q1ox ?_
  refine AWp.promoteBox 67 8 3 6 rfl rfl (by decide) ?_
  refine kR q1ox fun K1 u1=>?_
  refine AWp.block (AWp.forIdx e.kids (X:=Unit) (fun j _=>[(1,.box 1 0),(2,.box 2 0),(3,.box 3 0),(10,.d (.slice (exR e.kids))),(11,intV e.kids.length),(12,intV j)])
   (fun j _=>[(1,.cells [.d (.int .i64 2),.d (.str e.name),.d (.str e.type.name),.d (.slice (tyR e.type.args)),.d (.int .i64 e.type.pos),.d (.slice (tyR e.targs)),.d (.slice (exR e.kids)),.d (.int .i64 e.pos)]),
    (2,.cells [.d (.int .i64 0),.d (.str []),.d (.str []),.d .nil,.d (.int .i64 0),.d .nil,.d .nil,.d (.int .i64 0)]),
    (3,.cells [.d (.int .i64 2),.d (.str e.name),.d (.str e.type.name),.d (.slice (tyR e.type.args)),.d (.int .i64 e.type.pos),.d (.slice (tyR e.targs)),.acc 67,.d (.int .i64 e.pos)]),(67,.rows 8 (exR ((e.kids.take j).map (mglE mt mm))))])
   (fun j _=>True) () trivial sS (by simp [ble,bget,berase,exR_map]) ?_ ?_)
  rotate_left
  ·intro j _ d hd hmem dp tk hlt _
   have hi:=ih d hmem (hs.kids.2 d hmem) (hm.kids d hmem)
   rw [tk]
   refine sR1 hlt q1ox ?_
   refine AWp.goOn rfl ?_
   refine sK fun K2 u2=>?_
   refine AWp.block ?_
   (refine sV q1ox fun K z=>?_;refine ci (exR_get hd) ?_;apply z;clear z K)
   (refine lG q1ox [] 5 [] fun K z=>?_;refine ev ?_;refine cc hi ?_;refine⟨by simp,by simp only [List.length_map,List.length_take];unfold lim sm at *;omega,?_⟩;(try refine ev ?_);apply z;clear z K;try simp only [thenA,blockA,if_true])
   refine u2 _ _ ?_
   clear u2 K2
   (refine lV q1ox fun K z=>?_;refine cl ?_;apply z;clear z K;try simp only [thenA,blockA,if_true])
   exact⟨(),trivial,sS,by simp [ble,bget,exR_map,exC]⟩
  intro _ _
  rw [List.take_length]
  refine sR1 Int.lt_irrefl q1ox ?_
  refine AWp.stop rfl ?_
  simp only [thenA,blockA,if_true]
  refine u1 _ _ ?_
  clear u1 K1
  refine kR q1ox fun K1 u1=>?_
  refine AWp.block ?_
  refine kR q1ox fun K2 u2=>?_
  refine AWp.condF rfl ?_
  (refine lV q1ox fun K z=>?_;apply z;clear z K;try simp only [thenA,blockA,if_true])
  refine u2 _ _ ?_
  clear u2 K2
  refine AWp.condF rfl ?_
  refine sR q1ox ?_
  refine AWp.condT rfl ?_
  (refine lV q1ox fun K z=>?_;refine cc hp ?_;apply z;clear z K;try simp only [thenA,blockA,if_true])
  refine u1 _ _ ?_
  refine sR q1ox ?_
  exact aR
 rw [if_neg k2]
 refine cB func35 ?_
 refine sR q1ox ?_
 refine sC hcl q1ox ?_
 refine sR q1ox ?_
 refine AWp.promoteBox 67 8 3 6 rfl rfl (by decide) ?_
 refine kR q1ox fun K1 u1=>?_
 refine AWp.block (AWp.forIdx e.kids (X:=Unit) (fun j _=>[(1,.box 1 0),(2,.box 2 0),(3,.box 3 0),(10,.d (.slice (exR e.kids))),(11,intV e.kids.length),(12,intV j)])
  (fun j _=>[(1,.cells [.d (.int .i64 e.kind),.d (.str e.name),.d (.str e.type.name),.d (.slice (tyR e.type.args)),.d (.int .i64 e.type.pos),.d (.slice (tyR e.targs)),.d (.slice (exR e.kids)),.d (.int .i64 e.pos)]),
   (2,.cells [.d (.int .i64 0),.d (.str []),.d (.str []),.d .nil,.d (.int .i64 0),.d .nil,.d .nil,.d (.int .i64 0)]),
   (3,.cells [.d (.int .i64 e.kind),.d (.str e.name),.d (.str e.type.name),.d (.slice (tyR e.type.args)),.d (.int .i64 e.type.pos),.d (.slice (tyR e.targs)),.acc 67,.d (.int .i64 e.pos)]),(67,.rows 8 (exR ((e.kids.take j).map (mglE mt mm))))])
  (fun j _=>True) () trivial sS (by simp [ble,bget,berase,exR_map]) ?_ ?_)
 rotate_left
 ·intro j _ d hd hmem dp tk hlt _
  have hi:=ih d hmem (hs.kids.2 d hmem) (hm.kids d hmem)
  rw [tk]
  refine sR1 hlt q1ox ?_
  refine AWp.goOn rfl ?_
  refine sK fun K2 u2=>?_
  refine AWp.block ?_
  (refine sV q1ox fun K z=>?_;refine ci (exR_get hd) ?_;apply z;clear z K)
  (refine lG q1ox [] 5 [] fun K z=>?_;refine ev ?_;refine cc hi ?_;refine⟨by simp,by simp only [List.length_map,List.length_take];unfold lim sm at *;omega,?_⟩;(try refine ev ?_);apply z;clear z K;try simp only [thenA,blockA,if_true])
  refine u2 _ _ ?_
  clear u2 K2
  (refine lV q1ox fun K z=>?_;refine cl ?_;apply z;clear z K;try simp only [thenA,blockA,if_true])
  exact⟨(),trivial,sS,by simp [ble,bget,exR_map,exC]⟩
 intro _ _
 rw [List.take_length]
 refine sR1 Int.lt_irrefl q1ox ?_
 refine AWp.stop rfl ?_
 simp only [thenA,blockA,if_true]
 refine u1 _ _ ?_
 clear u1 K1
 refine kR q1ox fun K1 u1=>?_
 refine AWp.block ?_
 refine kR1 k3 q1ox fun K2 u2=>?_
 refine AWp.condF rfl ?_
 (refine lQ q1ox fun K z=>?_;refine ev1 k5 ?_;apply z;clear z K;try simp only [thenA,blockA,if_true])
 refine u2 _ _ ?_
 clear u2 K2
 refine AWp.condF rfl ?_
 refine sR1 k2 q1ox ?_
 refine AWp.condF rfl (AWp.skip (u1 _ _ ?_))
 refine sR q1ox ?_
 exact aR
abbrev q2ox:List Nat:=[0,1,2,3,8,9,10,11,12,14,15,22,28,36,51,52,53,54,77,78,79]
theorem ok_RepNo (s:Str)(hs:s.length≤sm)(h:Lib.countByte s 95=0):CallOK prog 228 [strV s,strV [95],strV [95,95],intV (-1)] (strV s):=by
 have hc:CallOK prog 265 [strV s,strV [95]] (intV 0):=by
  have:=ok_strCount s 95 hs
  rw [h] at this
  exact this
 have hne:¬ ([95]:Str)=[95,95]:=by decide
 refine cB func228 ?_
 refine sR q2ox ?_
 refine kR1 hne q2ox fun K1 u1=>?_
 refine kI u1 ?_
 clear u1 K1
 refine kC hc q2ox fun K1 u1=>?_
 refine sR q2ox ?_
 refine AWp.condT rfl ?_
 refine sR q2ox ?_
 exact aR
theorem ok_EscNo (s:Str)(hs:s.length≤sm)(h:Lib.countByte s 95=0):CallOK prog 104 [strV s] (strV s):=by
 have hr:=ok_RepNo s hs h
 have ha:CallOK prog 168 [strV s,strV [95],strV [95,95]] (strV s):=by
  refine cB func168 ?_
  refine sR [0,1,2,6] ?_
  refine sC hr [0,1,2,6] ?_
  exact aR
 refine cB func104 ?_
 refine sR [0,2] ?_
 refine sC ha [0,2] ?_
 exact aR
theorem ok_MList0:CallOK prog 157 [.d (.slice (tyR []))] (strV []):=by
 refine cB func157 ?_
 refine sR [0,2,3,5,8,9,10,11,12] ?_
 refine kR [0,2,3,5,8,9,10,11,12] fun K1 u1=>?_
 refine tI ?_
 refine sR [0,2,3,5,8,9,10,11,12] ?_
 exact aR
structure OwnName (n:Str):Prop where
 len:n.length≤sm
 noD:Lib.hasPrefix n [36]=false
 noN:noNum n=true
 noU:Lib.countByte n 95=0
theorem ok_MType0 (n:Str)(q:Int)(h:OwnName n):CallOK prog 105 [tyV (.mk n [] q)] (strV n):=by
 have hl:=h.len
 have h1:=ok_IndexNo n h.len h.noD h.noN
 have h2:=ok_EscNo n h.len h.noU
 have h3:=ok_MList0
 refine cB func105 ?_
 refine sR [0,1,2,3,4,17] ?_
 refine kC h1 [0,1,2,3,4,17] fun K1 u1=>?_
 refine sR [0,1,2,3,4,17] ?_
 refine kI u1 ?_
 clear u1 K1
 (refine sG [0,1,2,3,4,17] [] 5 [] fun K z=>?_;refine ev ?_;refine cc h2 ?_;refine cc h3 ?_;refine⟨(by (try simp only [List.length_append,List.length_cons,List.length_nil]);unfold lim sm at *;omega),?_⟩;(try refine ev ?_);apply z;clear z K)
 try rw [List.append_nil]
 exact aR
theorem ok_MPlain0 (n:Str)(q:Int)(h:OwnName n):CallOK prog 86 [tyV (.mk n [] q)] (tyV (.mk n [] q)):=by
 have h1:=ok_MType0 n q h
 refine cB func86 ?_
 refine sR [0,1,2] ?_
 (refine sG [0,1,2] [] 4 [] fun K z=>?_;refine ev ?_;refine cc h1 ?_;apply z;clear z K)
 exact aR
theorem esubst_is (v:List Str)(a:List Ty)(e:Ex):e.subst v a=.mk e.kind e.name (e.type.subst v a) (e.targs.map (Ty.subst v a)) (e.kids.map (Ex.subst v a)) e.pos:=by
 unfold Ex.subst
 rw [mapped_eq]
 cases e;rfl
theorem erepl_is (names:List Str)(vals:List Ex)(e:Ex):e.repl names vals=replG names vals (e.kidded (e.kids.map (Ex.repl names vals))):=by
 unfold Ex.repl
 rw [mapped_eq]
theorem Ex.Shp.of {e:Ex} (h1:e.kind=1∨e.kind=2∨e.kind=3∨e.kind=4∨e.kind=5)(h2:e.kind=2∨e.kind=4∨e.kind=5→e.kids≠[])(h3:e.kind=5→e.name=[])(h4:∀ x,x∈e.kids→x.Shp):e.Shp:=by
 cases e with | mk k n t a ks q=>exact .mk k n t a ks q h1 h2 h3 h4
theorem Ex.Shp.some' {e:Ex} (h:e.Shp):e.kind=2∨e.kind=4∨e.kind=5→e.kids≠[]:=fun hk hn=>by
 obtain⟨v,hv⟩:=h.some hk
 rw [hn] at hv;cases hv
theorem Ex.Shp.subst (v:List Str)(a:List Ty):∀ {e:Ex},e.Shp→(e.subst v a).Shp:=by
 intro e
 induction e using Ex.induct with | _ e ih=>?_
 intro h
 rw [esubst_is]
 refine .mk _ _ _ _ _ _ h.kind (fun hk hn=>h.some' hk (List.map_eq_nil_iff.1 hn)) h.name fun x hx=>?_
 obtain⟨y,hy,rfl⟩:=List.mem_map.1 hx
 exact ih y hy (h.kids y hy)
theorem Ex.Shp.repl {names:List Str} {vals:List Ex} (hv:∀ x,x∈vals→x.Shp):∀ {e:Ex},e.Shp→(e.repl names vals).Shp:=by
 intro e
 induction e using Ex.induct with | _ e ih=>?_
 intro h
 rw [erepl_is]
 have hk:(e.kidded (e.kids.map (Ex.repl names vals))).Shp:=.mk _ _ _ _ _ _ h.kind (fun hk hn=>h.some' hk (List.map_eq_nil_iff.1 hn)) h.name fun x hx=>by
  obtain⟨y,hy,rfl⟩:=List.mem_map.1 hx
  exact ih y hy (h.kids y hy)
 unfold replG
 split
 ·cases hg:vals[(indexS (e.kidded (e.kids.map (Ex.repl names vals))).name names 0).toNat]? with
  | none=>exact hk
  | some u=>exact hv u (List.mem_of_getElem? hg)
 ·exact hk
def outR (o:Int):Int:=if o=1 then 5 else o
abbrev ruS (o n:Int)(e:Ex):List SV:=.d (.int .i64 o)::.d (.int .i64 n)::exS e
abbrev ruV (o n:Int)(e:Ex):SV:=.agg (ruS o n e)
abbrev q1Jx:List Nat:=[0,1,2,3,4,6,7,8,9,20]
theorem ok_RunExpr (p:Prog)(h:p.Sm)(n:Nat)(hn:n≤1000000)(e:Ex)(hs:StepsSm p n e):CallOK prog 69 [prV p,exV e,intV n] (ruV (outR (stepsE p n e).2.2) (stepsE p n e).2.1 (stepsE p n e).1):=by
 have hst:=ok_Steps p h n hn e hs
 have hlt:¬ (n:Int) < 0:=by omega
 generalize stepsE p n e=r at *
 obtain⟨x,m,o⟩:=r
 simp only
 unfold outR
 by_cases ho:o=1
 ·subst ho
  rw [if_pos rfl]
  refine cB func69 ?_
  refine sR q1Jx ?_
  (refine sQ q1Jx fun K z=>?_;refine ev1 hlt ?_;refine⟨_,opQ_max rfl rfl,?_⟩;(try refine ev1 hlt ?_);refine⟨_,.inl ⟨_,rfl,hst,rfl⟩,?_⟩;(try refine ev1 hlt ?_);apply z;clear z K)
  refine kR q1Jx fun K1 u1=>?_
  refine AWp.condT rfl ?_
  (refine lV q1Jx fun K z=>?_;apply z;clear z K;try simp only [thenA,blockA,if_true])
  refine u1 _ _ ?_
  refine sR q1Jx ?_
  exact aR
 ·rw [if_neg ho]
  refine cB func69 ?_
  refine sR q1Jx ?_
  (refine sQ q1Jx fun K z=>?_;refine ev1 hlt ?_;refine⟨_,opQ_max rfl rfl,?_⟩;(try refine ev1 hlt ?_);refine⟨_,.inl ⟨_,rfl,hst,rfl⟩,?_⟩;(try refine ev1 hlt ?_);apply z;clear z K)
  refine kR1 ho q1Jx fun K1 u1=>?_
  refine AWp.condF rfl (AWp.skip (u1 _ _ ?_))
  refine sR q1Jx ?_
  exact aR
theorem ok_RunMain (p:Prog)(h:p.Sm)(n:Nat)(hn:n≤1000000)(hs:StepsSm p n p.main):CallOK prog 26 [prV p,intV n] (ruV (outR (stepsE p n p.main).2.2) (stepsE p n p.main).2.1 (stepsE p n p.main).1):=by
 have hst:=ok_RunExpr p h n hn p.main hs
 generalize outR (stepsE p n p.main).2.2=o at *
 generalize stepsE p n p.main=r at *
 refine cB func26 ?_
 refine sR [0,1,2,4] ?_
 refine sC hst [0,1,2,4] ?_
 exact aR
abbrev q2Jx:List Nat:=[0,1,2,3,4,6,7,8,9,10,11,23]
theorem ok_RefExpr (p:Prog)(h:p.Sm)(n:Nat)(hn:n≤1000000)(e:Ex):CallOK prog 25 [prV p,exV e,intV n] (.tuple [ruV (outR (refStepsE p n e).2.2.1) (refStepsE p n e).2.1 (refStepsE p n e).1,boolV (refStepsE p n e).2.2.2]):=by
 have hst:=ok_RSteps p h n hn e
 have hlt:¬ (n:Int) < 0:=by omega
 generalize refStepsE p n e=r at *
 obtain⟨x,m,o,b⟩:=r
 simp only
 unfold outR
 by_cases ho:o=1
 ·subst ho
  rw [if_pos rfl]
  refine cB func25 ?_
  refine sR q2Jx ?_
  (refine sQ q2Jx fun K z=>?_;refine ev1 hlt ?_;refine⟨_,opQ_max rfl rfl,?_⟩;(try refine ev1 hlt ?_);refine⟨_,.inl ⟨_,rfl,hst,rfl⟩,?_⟩;(try refine ev1 hlt ?_);apply z;clear z K)
  refine kR q2Jx fun K1 u1=>?_
  refine AWp.condT rfl ?_
  (refine lV q2Jx fun K z=>?_;apply z;clear z K;try simp only [thenA,blockA,if_true])
  refine u1 _ _ ?_
  refine sR q2Jx ?_
  exact aR
 ·rw [if_neg ho]
  refine cB func25 ?_
  refine sR q2Jx ?_
  (refine sQ q2Jx fun K z=>?_;refine ev1 hlt ?_;refine⟨_,opQ_max rfl rfl,?_⟩;(try refine ev1 hlt ?_);refine⟨_,.inl ⟨_,rfl,hst,rfl⟩,?_⟩;(try refine ev1 hlt ?_);apply z;clear z K)
  refine kR1 ho q2Jx fun K1 u1=>?_
  refine AWp.condF rfl (AWp.skip (u1 _ _ ?_))
  refine sR q2Jx ?_
  exact aR
theorem ok_good (p:Prog):CallOK prog 24 [prV p] (boolV (decide (p.count≤600) && p.right)):=by
 have hf1:=ok_Few06 p
 by_cases g1:p.count≤600
 ·have hr1:=ok_Right06 p (Prog.count_Fit p g1).sm (Prog.count_Nn p g1)
  rw [decide_eq_true g1] at hf1 ⊢
  simp only [Bool.true_and]
  generalize p.right=b at *
  refine cB func24 ?_
  refine sR [0,1,2] ?_
  (refine sV [0,1,2] fun K z=>?_;refine cc hf1 ?_;refine cc hr1 ?_;apply z;clear z K)
  exact aR
 ·rw [decide_eq_false g1] at hf1 ⊢
  simp only [Bool.false_and]
  refine cB func24 ?_
  refine sR [0,1,2] ?_
  refine sC hf1 [0,1,2] ?_
  exact aR
theorem ok_same (o n:Int)(e:Ex)(he:e.Sm):CallOK prog 27 [ruV o n e,ruV o n e] (boolV true):=by
 have h1:=ok_RefSame e he e
 rw [sameE_refl] at h1
 refine cB func27 ?_
 refine sR [0,1,2,3,4] ?_
 refine sC h1 [0,1,2,3,4] ?_
 exact aR
def wordsD:List D:=[.str [],.str [],.str [118,97,108,117,101],.str [112,97,110,105,99],.str [115,116,117,99,107],.str [102,117,101,108]]
theorem words_rep (S:Nat→Prop)(w:World)(j:Nat)(d:D)(v:Value)(h1:wordsD[j]? = some d)(h2:runWords[j]? = some v):RepC S w d v:=by
 match j with
 | 0 | 1=>cases h1;cases h2;exact .str [] (by decide)
 | 2=>cases h1;cases h2;exact .str [118,97,108,117,101] (by decide)
 | 3=>cases h1;cases h2;exact .str [112,97,110,105,99] (by decide)
 | 4=>cases h1;cases h2;exact .str [115,116,117,99,107] (by decide)
 | 5=>cases h1;cases h2;exact .str [102,117,101,108] (by decide)
 | j+6=>simp [wordsD] at h1
theorem words_one:∀ d,d∈wordsD→d.one=true:=by decide
theorem words_fix (sy ra:TypeId × Value):fixedRow sy ra 0 runWords:=.inr (.inr (.inl ⟨rfl,rfl,trivial⟩))
abbrev spc:Str:=[32]
abbrev q3Jx:List Nat:=[0,1,2,3,18,26,29]
theorem ok_RText2 (n:Nat)(hn:n≤sm)(e:Ex)(hs:e.Shp)(hl:e.xlen≤sm):CallOK prog 67 [ruV 2 n e] (strV (Lib.join [[118,97,108,117,101],Lib.itoa n,e.txt] spc)):=by
 have hi:=ok_Itoa n (by omega) (by unfold sm at hn;omega)
 have hx:=ok_EText e hs hl
 have h1:=Ex.txt_len e
 have h2:=Lib.itoa_length_le n (by omega) (by unfold sm at hn;omega)
 have hj:=ok_strJoin [[118,97,108,117,101],Lib.itoa n,e.txt] spc (by simp [sm]) (by
  rw [Lib.join_cons]
  simp only [Lib.joinTail,List.map_cons,List.map_nil,List.flatten_cons,List.flatten_nil,List.length_append,List.length_cons,List.length_nil]
  unfold lim sm at *;omega)
 have hw:¬ ([118,97,108,117,101]:Str)=[]:=by decide
 generalize Lib.join [[118,97,108,117,101],Lib.itoa n,e.txt] spc=J at *
 generalize Lib.itoa n=N at *
 generalize e.txt=T at *
 refine cB func67 ?_
 refine sR q3Jx ?_
 refine sK fun K1 u1=>?_
 (refine sQ q3Jx fun K z=>?_;simp -implicitDefEqProofs only [EV,forall_const,implies_true,Nat.reduceAdd,Nat.reduceEqDiff,Nat.reduceBEq,Nat.reduceLeDiff,Nat.reduceSub,Nat.reduceMul,Int.reduceEq,Int.reduceLT,Int.reduceLE,Int.reduceSub,Int.reduceAdd,Int.reduceToNat,reduceCtorEq,Int.reduceNeg,TF3,TF4,TF9,TF28,TF59,TF71,TF176,hw,wordsD];refine⟨_,opQ_indexGlob (j:=2) rfl rfl underlying176 (by kernel_rfl) (by decide) words_fix words_one rfl words_rep,?_⟩;(try simp -implicitDefEqProofs only [EV,forall_const,implies_true,Nat.reduceAdd,Nat.reduceEqDiff,Nat.reduceBEq,Nat.reduceLeDiff,Nat.reduceSub,Nat.reduceMul,Int.reduceEq,Int.reduceLT,Int.reduceLE,Int.reduceSub,Int.reduceAdd,Int.reduceToNat,reduceCtorEq,Int.reduceNeg,TF3,TF4,TF9,TF28,TF59,TF71,TF176,hw,wordsD]);apply z;clear z K)
 refine kI u1 ?_
 clear u1 K1
 (refine sG q3Jx [26] 7 [] fun K z=>?_;simp -implicitDefEqProofs only [EV,forall_const,implies_true,Nat.reduceAdd,Nat.reduceEqDiff,Nat.reduceBEq,Nat.reduceLeDiff,Nat.reduceSub,Nat.reduceMul,Int.reduceEq,Int.reduceLT,Int.reduceLE,Int.reduceSub,Int.reduceAdd,Int.reduceToNat,reduceCtorEq,Int.reduceNeg,TF3,TF4,TF9,TF28,TF59,TF71,TF176,hw,wordsD];refine⟨_,opQ_indexGlob (j:=2) rfl rfl underlying176 (by kernel_rfl) (by decide) words_fix words_one rfl words_rep,?_⟩;(try simp -implicitDefEqProofs only [EV,forall_const,implies_true,Nat.reduceAdd,Nat.reduceEqDiff,Nat.reduceBEq,Nat.reduceLeDiff,Nat.reduceSub,Nat.reduceMul,Int.reduceEq,Int.reduceLT,Int.reduceLE,Int.reduceSub,Int.reduceAdd,Int.reduceToNat,reduceCtorEq,Int.reduceNeg,TF3,TF4,TF9,TF28,TF59,TF71,TF176,hw,wordsD]);refine⟨_,.inl ⟨_,rfl,hi,rfl⟩,?_⟩;(try simp -implicitDefEqProofs only [EV,forall_const,implies_true,Nat.reduceAdd,Nat.reduceEqDiff,Nat.reduceBEq,Nat.reduceLeDiff,Nat.reduceSub,Nat.reduceMul,Int.reduceEq,Int.reduceLT,Int.reduceLE,Int.reduceSub,Int.reduceAdd,Int.reduceToNat,reduceCtorEq,Int.reduceNeg,TF3,TF4,TF9,TF28,TF59,TF71,TF176,hw,wordsD]);apply z;clear z K)
 refine kR q3Jx fun K1 u1=>?_
 refine AWp.condT rfl ?_
 (refine lV q3Jx fun K z=>?_;refine cc hx ?_;refine⟨by simp,?_⟩;(try refine ev ?_);apply z;clear z K;try simp only [thenA,blockA,if_true])
 refine u1 _ _ ?_
 (refine sV q3Jx fun K z=>?_;refine⟨_,.inr ⟨_,rfl,hj,rfl⟩,?_⟩;(try refine ev ?_);apply z;clear z K)
 exact aR
abbrev q4Jx:List Nat:=[0,1,2,3,18,26,29]
theorem ok_RText5 (n:Nat)(hn:n≤sm)(e:Ex):CallOK prog 67 [ruV 5 n e] (strV (Lib.join [[102,117,101,108],Lib.itoa n] spc)):=by
 have hi:=ok_Itoa n (by omega) (by unfold sm at hn;omega)
 have h2:=Lib.itoa_length_le n (by omega) (by unfold sm at hn;omega)
 have hj:=ok_strJoin [[102,117,101,108],Lib.itoa n] spc (by simp [sm]) (by
  rw [Lib.join_cons]
  simp only [Lib.joinTail,List.map_cons,List.map_nil,List.flatten_cons,List.flatten_nil,List.length_append,List.length_cons,List.length_nil]
  unfold lim sm at *;omega)
 have hw:¬ ([102,117,101,108]:Str)=[]:=by decide
 generalize Lib.join [[102,117,101,108],Lib.itoa n] spc=J at *
 generalize Lib.itoa n=N at *
 refine cB func67 ?_
 refine sR q4Jx ?_
 refine sK fun K1 u1=>?_
 (refine sQ q4Jx fun K z=>?_;simp -implicitDefEqProofs only [EV,forall_const,implies_true,Nat.reduceAdd,Nat.reduceEqDiff,Nat.reduceBEq,Nat.reduceLeDiff,Nat.reduceSub,Nat.reduceMul,Int.reduceEq,Int.reduceLT,Int.reduceLE,Int.reduceSub,Int.reduceAdd,Int.reduceToNat,reduceCtorEq,Int.reduceNeg,TF3,TF4,TF9,TF28,TF59,TF71,TF176,hw,wordsD];refine⟨_,opQ_indexGlob (j:=5) rfl rfl underlying176 (by kernel_rfl) (by decide) words_fix words_one rfl words_rep,?_⟩;(try simp -implicitDefEqProofs only [EV,forall_const,implies_true,Nat.reduceAdd,Nat.reduceEqDiff,Nat.reduceBEq,Nat.reduceLeDiff,Nat.reduceSub,Nat.reduceMul,Int.reduceEq,Int.reduceLT,Int.reduceLE,Int.reduceSub,Int.reduceAdd,Int.reduceToNat,reduceCtorEq,Int.reduceNeg,TF3,TF4,TF9,TF28,TF59,TF71,TF176,hw,wordsD]);apply z;clear z K)
 refine kI u1 ?_
 clear u1 K1
 (refine sG q4Jx [26] 7 [] fun K z=>?_;simp -implicitDefEqProofs only [EV,forall_const,implies_true,Nat.reduceAdd,Nat.reduceEqDiff,Nat.reduceBEq,Nat.reduceLeDiff,Nat.reduceSub,Nat.reduceMul,Int.reduceEq,Int.reduceLT,Int.reduceLE,Int.reduceSub,Int.reduceAdd,Int.reduceToNat,reduceCtorEq,Int.reduceNeg,TF3,TF4,TF9,TF28,TF59,TF71,TF176,hw,wordsD];refine⟨_,opQ_indexGlob (j:=5) rfl rfl underlying176 (by kernel_rfl) (by decide) words_fix words_one rfl words_rep,?_⟩;(try simp -implicitDefEqProofs only [EV,forall_const,implies_true,Nat.reduceAdd,Nat.reduceEqDiff,Nat.reduceBEq,Nat.reduceLeDiff,Nat.reduceSub,Nat.reduceMul,Int.reduceEq,Int.reduceLT,Int.reduceLE,Int.reduceSub,Int.reduceAdd,Int.reduceToNat,reduceCtorEq,Int.reduceNeg,TF3,TF4,TF9,TF28,TF59,TF71,TF176,hw,wordsD]);refine⟨_,.inl ⟨_,rfl,hi,rfl⟩,?_⟩;(try simp -implicitDefEqProofs only [EV,forall_const,implies_true,Nat.reduceAdd,Nat.reduceEqDiff,Nat.reduceBEq,Nat.reduceLeDiff,Nat.reduceSub,Nat.reduceMul,Int.reduceEq,Int.reduceLT,Int.reduceLE,Int.reduceSub,Int.reduceAdd,Int.reduceToNat,reduceCtorEq,Int.reduceNeg,TF3,TF4,TF9,TF28,TF59,TF71,TF176,hw,wordsD]);apply z;clear z K)
 refine kR q4Jx fun K1 u1=>?_
 refine AWp.condF rfl (AWp.skip (u1 _ _ ?_))
 (refine sV q4Jx fun K z=>?_;refine⟨_,.inr ⟨_,rfl,hj,rfl⟩,?_⟩;(try refine ev ?_);apply z;clear z K)
 exact aR
theorem ok_RText9 (n:Int)(e:Ex):CallOK prog 67 [ruV 9 n e] (strV []):=by
 refine cB func67 ?_
 refine sR [0,1,2,3,18,26,29] ?_
 refine kR [0,1,2,3,18,26,29] fun K1 u1=>?_
 refine tI ?_
 refine sR [0,1,2,3,18,26,29] ?_
 exact aR
def traceL (p:Prog):Nat→Ex→List Str
 | 0,_=>[]
 | n+1,e=>if (stepE p e).2=1 then (stepE p e).1.txt::traceL p n (stepE p e).1 else []
def TrOK (p:Prog):Nat→Ex→Prop
 | 0,e=>e.Sm∧e.Shp∧e.xlen≤sm
 | n+1,e=>(e.Sm∧e.Shp∧e.xlen≤sm)∧((stepE p e).2=1→TrOK p n (stepE p e).1)
theorem TrOK.here {p:Prog}:∀ {n:Nat} {e:Ex},TrOK p n e→e.Sm∧e.Shp∧e.xlen≤sm
 | 0,_,h=>h
 | _+1,_,h=>h.1
abbrev q5Jx:List Nat:=[0,1,2,4,5,6,7,8,13,15,16,17,25]
theorem ok_Trace (p:Prog)(h:p.Sm)(n:Nat)(hn:n≤1000)(ht:TrOK p n p.main):CallOK prog 66 [prV p,intV n] (.d (.slice (strR (p.main.txt::traceL p n p.main)))):=by
 have hlt:¬ (n:Int) < 0:=by omega
 have hx0:=ok_EText p.main ht.here.2.1 ht.here.2.2
 generalize hF:p.main.txt::traceL p n p.main=F
 refine cB func66 ?_
 refine sR q5Jx ?_
 refine sR q5Jx ?_
 (refine AWp.seqR q5Jx [13] (by decide +kernel) fun K z=>?_;refine ev ?_;refine cc hx0 ?_;apply z;clear z K)
 refine sK fun K1 u1=>?_
 (refine sQ q5Jx fun K z=>?_;refine ev1 hlt ?_;refine⟨_,opQ_max rfl rfl,?_⟩;(try refine ev1 hlt ?_);apply z;clear z K)
 refine AWp.block (AWp.loop (X:=Nat × Ex × List Str) (fun z=>[(2,.box 2 0),(5,.box 5 0),(6,.acc 13),(15,intV n),(16,intV z.1)])
  (fun z=>[(2,.cells ((prC p).map .d)),(5,.cells (exS z.2.1)),(13,.rows 1 (strR z.2.2))])
  (fun z=>z.1≤n∧TrOK p (n - z.1) z.2.1∧z.2.2++traceL p (n - z.1) z.2.1=F∧z.2.2.length=z.1+1) (fun z=>n - z.1) (0,p.main,[p.main.txt])
  ⟨Nat.zero_le _,by rw [Nat.sub_zero];exact ht,by rw [Nat.sub_zero,← hF];rfl,rfl⟩ sS (by simp [ble,bget,exS,prC,strR]) ?_)
 rintro⟨i,e,l⟩ ⟨hi,hok,hl,hlen⟩
 simp only at hi hok hl hlen ⊢
 by_cases hin:i=n
 ·subst hin
  rw [Nat.sub_self,traceL,List.append_nil] at hl
  subst hl
  refine sR1 Int.lt_irrefl q5Jx ?_
  refine AWp.stop rfl ?_
  simp only [thenA,blockA,if_true]
  refine u1 _ _ ?_
  refine sR q5Jx ?_
  exact aR
 ·have hlt2:(i:Int) < (n:Int):=by omega
  obtain⟨k,hk⟩:∃ k,n - i=k+1:=⟨n - i - 1,by omega⟩
  have hk':n - (i+1)=k:=by omega
  rw [hk] at hok hl
  obtain⟨⟨hsm,hshp,hxl⟩,hnext⟩:=hok
  have hys:=stepE_Sm h e hsm
  have hst:=ok_Step p h e hsm hys
  rw [traceL] at hl
  refine sR1 hlt2 q5Jx ?_
  refine AWp.goOn rfl ?_
  refine sK fun K2 u2=>?_
  refine AWp.block ?_
  by_cases ho:(stepE p e).2=1
  ·have hn2:=hnext ho
   rw [if_pos ho] at hl
   have hx:=ok_EText (stepE p e).1 hn2.here.2.1 hn2.here.2.2
   generalize stepE p e=r at *
   obtain⟨y,o⟩:=r
   simp only at ho hn2 hx hl hys
   subst ho
   generalize hY:y.txt=Y at *
   refine sC hst q5Jx ?_
   refine kR q5Jx fun K3 u3=>?_
   refine AWp.condF rfl (AWp.skip (u3 _ _ ?_))
   clear u3 K3
   refine sR q5Jx ?_
   (refine lV q5Jx fun K z=>?_;refine cc hx ?_;refine⟨by simp,by unfold lim;omega,?_⟩;(try refine ev ?_);apply z;clear z K;try simp only [thenA,blockA,if_true])
   refine u2 _ _ ?_
   clear u2 K2
   (refine lV q5Jx fun K z=>?_;refine cl ?_;apply z;clear z K;try simp only [thenA,blockA,if_true])
   exact⟨(i+1,y,l++[Y]),⟨by simp only;omega,by simp only;rw [hk'];exact hn2,by simp only;rw [hk'];simpa using hl,by simp [hlen]⟩,by simp only;omega,sS,by simp [ble,bget,exS,prC,strR]⟩
  ·rw [if_neg ho,List.append_nil] at hl
   subst hl
   generalize stepE p e=r at *
   obtain⟨y,o⟩:=r
   simp only at ho
   refine sC hst q5Jx ?_
   refine kR1 ho q5Jx fun K3 u3=>?_
   refine AWp.condT rfl (AWp.exit ?_)
   simp only [thenA,blockA,if_true]
   refine u1 _ _ ?_
   refine sR q5Jx ?_
   exact aR
def pairS (p q:Prog)(g:Ex→Ex)(r:Int × Bool)(a b:Ex):Int × Bool:=if sameE (g a) b=true then (if (stepE p a).2=(stepE q b).2 then (if (stepE p a).2=1 then r else (0,true)) else (0,false)) else (0,false)
def pairE (p q:Prog)(g:Ex→Ex):Nat→Ex→Ex→Int × Bool
 | 0,a,b=>pairS p q g (0,true) a b
 | k+1,a,b=>pairS p q g ((pairE p q g k (stepE p a).1 (stepE q b).1).1+1,(pairE p q g k (stepE p a).1 (stepE q b).1).2) a b
def PairOK (p q:Prog)(mt:Ty→Ty)(mm:Str→List Ty→Str):Nat→Ex→Ex→Prop
 | 0,a,b=>a.Sm∧b.Sm∧MOK mt mm a∧(mglE mt mm a).Sm
 | k+1,a,b=>(a.Sm∧b.Sm∧MOK mt mm a∧(mglE mt mm a).Sm)∧(sameE (mglE mt mm a) b=true→(stepE p a).2=1→(stepE q b).2=1→PairOK p q mt mm k (stepE p a).1 (stepE q b).1)
theorem PairOK.here {p q:Prog} {mt:Ty→Ty} {mm:Str→List Ty→Str}:∀ {n:Nat} {a b:Ex},PairOK p q mt mm n a b→a.Sm∧b.Sm∧MOK mt mm a∧(mglE mt mm a).Sm
 | 0,_,_,h=>h
 | _+1,_,_,h=>h.1
theorem pairE_eq (p q:Prog)(g:Ex→Ex)(n:Nat)(a b:Ex):∃ r,pairE p q g n a b=pairS p q g r a b:=by
 cases n with
 | zero=>exact⟨_,rfl⟩
 | succ n=>exact⟨_,rfl⟩
abbrev q1Kx:List Nat:=[0,1,2,3,4,6,7,8,9,10,11,12,13,14,25,41,49]
theorem ok_Pair (p q:Prog)(hp:p.Sm)(hq:q.Sm)(mt:Ty→Ty)(mm:Str→List Ty→Str)(n:Nat)(hn:n≤1000000)(hok:PairOK p q mt mm n p.main q.main) :
  CallOK prog 65 [prV p,prV q,intV n] (.tuple [intV (pairE p q (mglE mt mm) n p.main q.main).1,boolV (pairE p q (mglE mt mm) n p.main q.main).2]):=by
 generalize hR:pairE p q (mglE mt mm) n p.main q.main=R
 refine cB func65 ?_
 refine sR q1Kx ?_
 (refine sG q1Kx [] 7 [⟨[],[],[8,9],[8,9]⟩,⟨[],[],[8,9],[8,9]⟩,⟨[],[],[8,9],[8,9]⟩,⟨[],[],[8,9],[8,9]⟩,⟨[8],[8],[9],[9]⟩,⟨[9],[9],[8],[8]⟩,⟨[8],[],[],[]⟩] fun K z=>?_;refine ev ?_;apply z;clear z K)
 refine sR q1Kx ?_
 refine AWp.block (AWp.loop (X:=Nat × Ex × Ex) (fun z=>[(2,intV n),(3,.box 3 0),(4,.box 4 0),(8,.box 8 0),(9,.box 9 0),(10,intV z.1)])
  (fun z=>[(3,.cells ((prC p).map .d)),(4,.cells ((prC q).map .d)),(8,.cells (exS z.2.1)),(9,.cells (exS z.2.2))])
  (fun z=>z.1≤n∧PairOK p q mt mm (n - z.1) z.2.1 z.2.2∧(pairE p q (mglE mt mm) (n - z.1) z.2.1 z.2.2).1+z.1=R.1∧(pairE p q (mglE mt mm) (n - z.1) z.2.1 z.2.2).2=R.2) (fun z=>n - z.1) (0,p.main,q.main)
  ⟨Nat.zero_le _,hok,by rw [Nat.sub_zero,hR];simp,by rw [Nat.sub_zero,hR]⟩ sS (by simp [ble,bget,exS,prC]) ?_)
 rintro⟨i,a,b⟩ ⟨hi,hok,r1,r2⟩
 simp only at hi hok r1 r2 ⊢
 obtain⟨ha,hb,hm,hg⟩:=hok.here
 have c1:=ok_MExpr mt mm a ha hm
 have c2:=ok_ESame (mglE mt mm a) hg b
 have c3:=ok_Step p hp a ha (stepE_Sm hp a ha)
 have c4:=ok_Step q hq b hb (stepE_Sm hq b hb)
 refine sK fun K2 u2=>?_
 refine AWp.block ?_
 obtain⟨rr,hrr⟩:=pairE_eq p q (mglE mt mm) (n - i) a b
 have halt:∀ z:Int × Bool,pairS p q (mglE mt mm) rr a b=z→z.1=0→R=((i:Int),z.2):=fun z hz h0=>by
  rw [hrr,hz] at r1 r2
  obtain⟨x,y⟩:=R
  simp only at r1 r2
  rw [h0,Int.zero_add] at r1
  rw [← r1,← r2]
 cases hs:sameE (mglE mt mm a) b with
 | false =>
  have hz:=halt (0,false) (by unfold pairS;rw [hs];rfl) rfl
  rw [hz]
  rw [hs] at c2
  refine sK fun K3 u3=>?_
  (refine sG q1Kx [] 3 [] fun K z=>?_;refine ev ?_;refine cc c1 ?_;refine cc c2 ?_;apply z;clear z K)
  refine tI ?_
  refine sR q1Kx ?_
  exact aR
 | true =>
  rw [hs] at c2
  have hps:pairS p q (mglE mt mm) rr a b=if (stepE p a).2=(stepE q b).2 then (if (stepE p a).2=1 then rr else (0,true)) else (0,false):=by unfold pairS;rw [hs];rfl
  by_cases ho:(stepE p a).2=(stepE q b).2
  rotate_left
  ·have hz:=halt (0,false) (by rw [hps,if_neg ho]) rfl
   rw [hz]
   generalize stepE p a=s1 at *
   generalize stepE q b=s2 at *
   obtain⟨y1,o1⟩:=s1
   obtain⟨y2,o2⟩:=s2
   simp only at ho
   refine sK fun K3 u3=>?_
   (refine sG q1Kx [] 3 [] fun K z=>?_;refine ev ?_;refine cc c1 ?_;refine cc c2 ?_;apply z;clear z K)
   refine kI u3 ?_
   clear u3 K3
   refine sC c3 q1Kx ?_
   refine sC c4 q1Kx ?_
   refine kR1 ho q1Kx fun K3 u3=>?_
   refine tI ?_
   refine sR q1Kx ?_
   exact aR
  by_cases h1:(stepE p a).2=1
  rotate_left
  ·have hz:=halt (0,true) (by rw [hps,if_pos ho,if_neg h1]) rfl
   rw [hz]
   generalize stepE p a=s1 at *
   generalize stepE q b=s2 at *
   obtain⟨y1,o1⟩:=s1
   obtain⟨y2,o2⟩:=s2
   simp only at ho h1
   subst ho
   refine sK fun K3 u3=>?_
   (refine sG q1Kx [] 3 [] fun K z=>?_;refine ev ?_;refine cc c1 ?_;refine cc c2 ?_;apply z;clear z K)
   refine kI u3 ?_
   clear u3 K3
   refine sC c3 q1Kx ?_
   refine sC c4 q1Kx ?_
   refine kR q1Kx fun K3 u3=>?_
   refine kI u3 ?_
   clear u3 K3
   refine kR1 h1 q1Kx fun K3 u3=>?_
   refine tI ?_
   refine sR q1Kx ?_
   exact aR
  by_cases hin:i=n
  ·subst hin
   have hge:(i:Int) ≥ (i:Int):=Int.le_refl _
   rw [Nat.sub_self] at r1 r2
   have hp0:pairE p q (mglE mt mm) 0 a b=(0,true):=by rw [pairE];unfold pairS;rw [hs,if_pos rfl,if_pos ho,if_pos h1]
   rw [hp0] at r1 r2
   have hz:R=((i:Int),true):=by
    obtain⟨x,y⟩:=R
    simp only at r1 r2
    rw [Int.zero_add] at r1
    rw [← r1,← r2]
   rw [hz]
   generalize stepE p a=s1 at *
   generalize stepE q b=s2 at *
   obtain⟨y1,o1⟩:=s1
   obtain⟨y2,o2⟩:=s2
   simp only at ho h1
   subst ho
   subst h1
   refine sK fun K3 u3=>?_
   (refine sG q1Kx [] 3 [] fun K z=>?_;refine ev ?_;refine cc c1 ?_;refine cc c2 ?_;apply z;clear z K)
   refine kI u3 ?_
   clear u3 K3
   refine sC c3 q1Kx ?_
   refine sC c4 q1Kx ?_
   refine kR q1Kx fun K3 u3=>?_
   refine kI u3 ?_
   clear u3 K3
   refine kR1 hge q1Kx fun K3 u3=>?_
   refine tI ?_
   refine sR q1Kx ?_
   exact aR
  have hlt:¬ (i:Int) ≥ (n:Int):=by omega
  obtain⟨k,hk⟩:∃ k,n - i=k+1:=⟨n - i - 1,by omega⟩
  have hk':n - (i+1)=k:=by omega
  rw [hk] at hok r1 r2
  have hps1:pairE p q (mglE mt mm) (k+1) a b=((pairE p q (mglE mt mm) k (stepE p a).1 (stepE q b).1).1+1,(pairE p q (mglE mt mm) k (stepE p a).1 (stepE q b).1).2):=by
   rw [pairE];unfold pairS;rw [hs,if_pos rfl,if_pos ho,if_pos h1]
  rw [hps1] at r1 r2
  have hnx:=hok.2 hs h1 (by rw [← ho];exact h1)
  clear hok hps hps1 halt hrr
  generalize stepE p a=s1 at *
  generalize stepE q b=s2 at *
  obtain⟨y1,o1⟩:=s1
  obtain⟨y2,o2⟩:=s2
  simp only at ho h1 hnx r1 r2
  subst ho
  subst h1
  refine sK fun K3 u3=>?_
  (refine sG q1Kx [] 3 [] fun K z=>?_;refine ev ?_;refine cc c1 ?_;refine cc c2 ?_;apply z;clear z K)
  refine kI u3 ?_
  clear u3 K3
  refine sC c3 q1Kx ?_
  refine sC c4 q1Kx ?_
  refine kR q1Kx fun K3 u3=>?_
  refine kI u3 ?_
  clear u3 K3
  refine kR1 hlt q1Kx fun K3 u3=>?_
  refine kI u3 ?_
  clear u3 K3
  (refine lG q1Kx [] 3 [⟨[],[],[],[]⟩,⟨[],[],[8],[]⟩,⟨[8],[],[],[]⟩] fun K z=>?_;refine ev ?_;apply z;clear z K;try simp only [thenA,blockA,if_true])
  refine u2 _ _ ?_
  clear u2 K2
  (refine lV q1Kx fun K z=>?_;refine cl ?_;apply z;clear z K;try simp only [thenA,blockA,if_true])
  exact⟨(i+1,y1,y2),⟨by simp only;omega,by simp only;rw [hk'];exact hnx,by simp only;rw [hk'];omega,by simp only;rw [hk'];exact r2⟩,by simp only;omega,sS,by simp [ble,bget,exS,prC]⟩
def vT:Ty:=.mk [84] [] 0
def vt:Ex:=.mk 3 [] vT [] [] 0
def va:Ex:=.mk 5 [] vT [] [vt] 0
def vEx:Ex:=.mk 0 [] (.mk [] [] 0) [] [] 0
def vSig:Sig:=⟨[],[],[],.mk [] [] 0,0⟩
def vP (e:Ex):Prog:=⟨[⟨1,[84],[],[],[],[],[],vSig,vEx,0⟩],e⟩
theorem vtSm:vt.Sm:=rx_sm _ (by decide +kernel)
theorem vaSm:va.Sm:=rx_sm _ (by decide +kernel)
theorem vP_sm (e:Ex)(h:e.Sm):(vP e).Sm:=⟨((vP vt).count_sm (by decide +kernel)).1.decls,h⟩
theorem vt_step (e:Ex):stepE (vP e) vt=(vt,2):=by
 rw [stepE_eq,show stepL (vP e) vt.kids=none by rfl]
 simp only
 unfold redexE
 rw [if_pos (by decide)]
theorem va_step:stepE (vP va) va=(vt,1):=by
 rw [stepE_eq,show stepL (vP va) va.kids=none by rfl]
 simp only
 unfold redexE
 rw [if_neg (by decide),show va.kids[0]? = some vt from rfl]
 simp only
 rw [if_neg (by decide),if_neg (by decide),if_pos (by decide)]
 unfold asrtE
 rw [if_pos (by decide +kernel)]
theorem vt_shp:vt.Shp:=.mk _ _ _ _ _ _ (.inr (.inr (.inl rfl))) (fun h=>by omega) (fun h=>by omega) (by simp)
theorem va_shp:va.Shp:=.mk _ _ _ _ _ _ (.inr (.inr (.inr (.inr rfl)))) (fun _=>by simp) (fun _=>rfl) (by simp [vt_shp])
theorem own84:OwnName [84]:=⟨by decide,by decide,by decide +kernel,by decide +kernel⟩
theorem vt_mok:MOK id (fun n _=>n) vt:=.mk _ _ _ _ _ _ (fun _=>ok_MPlain0 [84] 0 own84) (fun h=>by omega) (by simp)
theorem va_mok:MOK id (fun n _=>n) va:=.mk _ _ _ _ _ _ (fun _=>ok_MPlain0 [84] 0 own84) (fun h=>by omega) (by simp [vt_mok])
theorem vt_mgl:mglE id (fun n _=>n) vt=vt:=by rfl
theorem va_mgl:mglE id (fun n _=>n) va=va:=by rfl
abbrev q2Kx:List Nat:=[0,1,2,3,4,5,7,8]
theorem ok_awake26:CallOK prog 23 [] (boolV true):=by
 have hp:=vP_sm vt vtSm
 have hq:=vP_sm va vaSm
 have s1:=vt_step vt
 have s2:=vt_step va
 have s3:=va_step
 have p1:=ok_Pair (vP va) (vP va) hq hq id (fun n _=>n) 3 (by decide) (by
  refine⟨⟨vaSm,vaSm,va_mok,by rw [show (vP va).main=va from rfl,va_mgl];exact vaSm⟩,fun _ _ _=>?_⟩
  rw [show (vP va).main=va from rfl,s3]
  refine⟨⟨vtSm,vtSm,vt_mok,by rw [vt_mgl];exact vtSm⟩,fun _ h=>?_⟩
  rw [s2] at h;exact absurd h (by decide))
 have e1:pairE (vP va) (vP va) (mglE id fun n _=>n) 3 va va=(1,true):=by
  simp only [pairE,pairS,va_mgl,sameE_refl,if_true,s3,vt_mgl,s2]
  rfl
 have p2:=ok_Pair (vP vt) (vP va) hp hq id (fun n _=>n) 3 (by decide) (by
  refine⟨⟨vtSm,vaSm,vt_mok,by rw [show (vP vt).main=vt from rfl,vt_mgl];exact vtSm⟩,fun _ h=>?_⟩
  rw [show (vP vt).main=vt from rfl,s1] at h;exact absurd h (by decide))
 have e2:pairE (vP vt) (vP va) (mglE id fun n _=>n) 3 vt va=(0,false):=by
  have:sameE vt va=false:=by rfl
  simp only [pairE,pairS,vt_mgl,this,Bool.false_eq_true,if_false]
 rw [show (vP va).main=va from rfl,e1] at p1
 rw [show (vP va).main=va from rfl,show (vP vt).main=vt from rfl,e2] at p2
 have t1:=ok_Trace (vP va) hq 3 (by decide) (by
  refine⟨⟨vaSm,va_shp,by decide +kernel⟩,fun _=>?_⟩
  rw [show (vP va).main=va from rfl,s3]
  refine⟨⟨vtSm,vt_shp,by decide +kernel⟩,fun h=>?_⟩
  rw [s2] at h;exact absurd h (by decide))
 have e3:(vP va).main.txt::traceL (vP va) 3 (vP va).main=[[84,123,125,46,40,84,41],[84,123,125]]:=by
  rw [show (vP va).main=va from rfl]
  simp only [traceL,s3,if_true,s2]
  rfl
 rw [e3] at t1
 obtain⟨L,hL⟩:∃ L:List Str,L=[[84,123,125,46,40,84,41],[84,123,125]]:=⟨_,rfl⟩
 have hle:(L.length:Int)=2:=by rw [hL];rfl
 have h0:L[0]? = some [84,123,125,46,40,84,41]:=by rw [hL];rfl
 rw [← hL] at t1
 clear hL e3
 have m1:=ok_RunMain (vP vt) hp 0 (by decide) vtSm
 have m2:=ok_RunMain (vP va) hq 0 (by decide) vaSm
 have m3:=ok_RunMain (vP va) hq 1 (by decide) ⟨vaSm,fun _=>by rw [show (vP va).main=va from rfl,s3];exact vtSm⟩
 rw [show stepsE (vP vt) 0 (vP vt).main=(vt,0,2) by rw [stepsE,show (vP vt).main=vt from rfl,s1]] at m1
 rw [show stepsE (vP va) 0 (vP va).main=(va,0,1) by rw [stepsE,show (vP va).main=va from rfl,s3]] at m2
 rw [show stepsE (vP va) 1 (vP va).main=(vt,1,2) by rw [stepsE,show (vP va).main=va from rfl,s3,if_pos rfl,stepsE,s2];rfl] at m3
 have x1:=ok_RText2 0 (by decide) vt vt_shp (by decide +kernel)
 have x2:=ok_RText5 0 (by decide) va
 have x3:=ok_RText2 1 (by decide) vt vt_shp (by decide +kernel)
 have x4:=ok_RText9 0 vEx
 rw [show Lib.join [[118,97,108,117,101],Lib.itoa (0:Nat),vt.txt] spc=[118,97,108,117,101,32,48,32,84,123,125] by decide +kernel] at x1
 rw [show Lib.join [[102,117,101,108],Lib.itoa (0:Nat)] spc=[102,117,101,108,32,48] by decide +kernel] at x2
 rw [show Lib.join [[118,97,108,117,101],Lib.itoa (1:Nat),vt.txt] spc=[118,97,108,117,101,32,49,32,84,123,125] by decide +kernel] at x3
 simp only [outR] at m1 m2 m3
 refine cB func23 ?_
 refine sR q2Kx ?_
 refine sR q2Kx ?_
 refine sR q2Kx ?_
 refine sR q2Kx ?_
 refine sC p1 q2Kx ?_
 refine sC p2 q2Kx ?_
 refine sC t1 q2Kx ?_
 (refine sQ q2Kx fun K z=>?_;refine ev1 hle ?_;refine⟨_,.inl ⟨_,rfl,m1,rfl⟩,?_⟩;(try refine ev1 hle ?_);refine⟨_,.inl ⟨_,rfl,x1,rfl⟩,?_⟩;(try refine ev1 hle ?_);refine⟨_,.inl ⟨_,rfl,m2,rfl⟩,?_⟩;(try refine ev1 hle ?_);refine⟨_,.inl ⟨_,rfl,x2,rfl⟩,?_⟩;(try refine ev1 hle ?_);refine⟨_,.inl ⟨_,rfl,m3,rfl⟩,?_⟩;(try refine ev1 hle ?_);refine⟨_,.inl ⟨_,rfl,x3,rfl⟩,?_⟩;(try refine ev1 hle ?_);refine⟨_,strR_get h0,rfl,?_⟩;(try refine ev1 hle ?_);refine⟨_,.inl ⟨_,rfl,x4,rfl⟩,?_⟩;(try refine ev1 hle ?_);apply z;clear z K)
 exact aR
set_option maxHeartbeats 2000000
def goodB (p:Prog):Bool:=decide (p.count≤600) && p.right
theorem u8_rem {n:Int} (hnw:(Lit.int .u8 n).wf=true)(k:Nat)(hk:0 < k):∃ a:Nat,n.tmod k=a∧a < k∧IntKind.i64.wrap n=n:=by
 have hn0:=u8_wf hnw
 have h1:=Int.tmod_nonneg (k:Int) hn0.1
 have h2:=Int.tmod_lt_of_pos n (b:=(k:Int)) (by omega)
 exact⟨(n.tmod k).toNat,by omega,by omega,wrap_i64 (by unfold InR;omega)⟩
end Go.Abs
