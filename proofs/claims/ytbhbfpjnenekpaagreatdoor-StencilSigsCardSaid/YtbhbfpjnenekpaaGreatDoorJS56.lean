/- what castingsref15.Head, castingsref16.Type, castingsref17.Program and infer compute -/
import Derived.Test.YtbhbfpjnenekpaaGreatDoorJS51
import Derived.Test.YtbhbfpjnenekpaaGreatDoorJS38
import Derived.Test.YtbhbfpjnenekpaaGreatDoorJFB
import Derived.Test.YtbhbfpjnenekpaaGreatDoorJAb7
import Derived.Test.YtbhbfpjnenekpaaGreatDoorJS25
namespace Go.Abs
set_option linter.unusedSimpArgs false
set_option linter.unusedVariables false
open Go Go.Proofs Tryz
set_option maxRecDepth 100000
set_option maxHeartbeats 1000000
structure TCtx where
 p:Prog
 strict:Bool
 env:List Formal
 vars:List Param
def ty0:Ty:=.mk [] [] 0
def noT (n:Int):Ty × Res:=(ty0,badR n)
def foundT (z:Ty × Res):Ty × Res:=if z.2.bad=false∧400 < z.1.count 0 then (ty0,⟨0,true,true⟩) else z
def structT (c:TCtx)(x:Ty):Bool:=decide (findV c.env x < 0) && instB c.p x 1
def openT (c:TCtx)(x:Ty):Bool:=decide (0≤findV c.env x) || instB c.p x 2
def fitsT (c:TCtx)(want:Ty)(e:Ex)(z:Ty × Res):Res:=if z.2.bad=false∧implB c.p c.env z.1 want=false then badR e.pos else z.2
def kidsT (c:TCtx):List Ty→List Ex→List (Ty × Res)→Res
 | w::ws,e::es,z::zs=>if (fitsT c w e z).bad=true then fitsT c w e z else kidsT c ws es zs
 | _,_,_=>res0
def sigT (c:TCtx)(e:Ex)(x:Ty):Int ⊕ Sig :=
 match (setT c.p c.env x)[(nameI (setT c.p c.env x) e.name).toNat]? with
 | none=>.inl e.pos
 | some s=>if nameI (setT c.p c.env x) e.name < 0∨s.formals.length≠e.targs.length then .inl e.pos else
  match chkL c.p c.env e.targs with
  | some q=>.inl q
  | none=>if 0≤boundsI c.p c.env s.formals e.targs then .inl ((e.targs[(boundsI c.p c.env s.formals e.targs).toNat]?).getD default).pos else
   if e.kids.length≠s.params.length+1 then .inl e.pos else .inr s
def parTs (s:Sig)(a:List Ty):List Ty:=s.params.map fun f=>f.type.subst (fnames s.formals) a
def callT (c:TCtx)(e:Ex)(x:Ty)(zs:List (Ty × Res)):Ty × Res:=match sigT c e x with
 | .inl q=>noT q
 | .inr s=>foundT (s.result.subst (fnames s.formals) e.targs,kidsT c (parTs s e.targs) e.kids.tail zs)
def fieldI (l:List Param)(nm:Str):Int:=idxF (fun f:Param=>decide (f.name=nm)) l
def fieldT (c:TCtx)(e:Ex)(x:Ty)(r:Res):Ty × Res :=
 if structT c x=false then noT e.pos else
 match (fieldsT c.p x)[(fieldI (fieldsT c.p x) e.name).toNat]? with
 | some f=>if fieldI (fieldsT c.p x) e.name < 0 then noT e.pos else foundT (f.type,r)
 | none=>noT e.pos
def boundT (c:TCtx)(x:Ty):Ty:=(boundV c.env x).getD x
def possT (c:TCtx)(x y:Ty):Bool:=openT c x && (openT c y || implB c.p c.env y (boundT c x))
def assertT (c:TCtx)(e:Ex)(x:Ty)(r:Res):Ty × Res:=match chk c.p c.env e.type with
 | some q=>noT q
 | none=>if c.strict=true∧possT c x e.type=false then noT e.pos else (e.type,r)
def varTy (c:TCtx)(e:Ex):Ty × Res:=match c.vars[(fieldI c.vars e.name).toNat]? with
 | some f=>if fieldI c.vars e.name < 0 then noT e.pos else (f.type,res0)
 | none=>noT e.pos
def litT (c:TCtx)(e:Ex)(zs:List (Ty × Res)):Ty × Res:=match chk c.p c.env e.type with
 | some q=>noT q
 | none=>if structT c e.type=false∨(fieldsT c.p e.type).length≠e.kids.length then noT e.pos else (e.type,kidsT c ((fieldsT c.p e.type).map (·.type)) e.kids zs)
def typeN (c:TCtx)(e:Ex)(zs:List (Ty × Res)):Ty × Res :=
 if e.kind=1 then varTy c e else if e.kind=3 then litT c e zs else
 if e.kind≠2∧e.kind≠4∧e.kind≠5 then noT e.pos else
 match zs with
 | []=>noT e.pos
 | z::zs=>if z.2.bad=true then z else if e.kind=2 then callT c e z.1 zs else if e.kind=4 then fieldT c e z.1 z.2 else assertT c e z.1 z.2
mutual
def typeE (c:TCtx):Ex→Ty × Res
 | .mk k n t a ks q=>typeN c (.mk k n t a ks q) (typeEL c ks)
def typeEL (c:TCtx):List Ex→List (Ty × Res)
 | []=>[]
 | e::es=>typeE c e::typeEL c es
end
theorem typeEL_map (c:TCtx):∀ l,typeEL c l=l.map (typeE c)
 | []=>by rw [typeEL];rfl
 | e::es=>by rw [typeEL,typeEL_map c es];rfl
theorem typeE_eq (c:TCtx)(e:Ex):typeE c e=typeN c e (e.kids.map (typeE c)):=by
 cases e with | mk k n t a ks q=>rw [typeE,typeEL_map];rfl
abbrev TO:=Ty × Option Int
def noI (n:Int):TO:=(ty0,some n)
def Agree (a:Ty × Res)(b:TO):Prop:=a.2.large=true∧a.2.bad=true∨a.2.large=false∧(a.2.bad=true∧b.2=some a.2.pos∨a.2.bad=false∧a.2.pos=0∧b=(a.1,none))
theorem Agree.no (n:Int):Agree (noT n) (noI n):=.inr ⟨rfl,.inl ⟨rfl,rfl⟩⟩
def varTs (l:List Str):List Ty:=l.map fun v=>.mk v [] 0
def envR (p:Prog)(d:Decl):List Formal:=((formalsT p d.name).zip d.vars).map fun z=>⟨z.2,z.1.bound.subst (fnames (formalsT p d.name)) (varTs d.vars),z.1.pos⟩
def sigsR (p:Prog)(env:List Formal)(pre:List Str):List Sig→Option Int
 | []=>none
 | s::ss=>if s.name∈pre then some s.pos else match sigR p env s with
  | some q=>some q
  | none=>sigsR p env (pre++[s.name]) ss
def typedR (p:Prog)(i:Nat)(d:Decl):Option Int :=
 if findD d.name p.decls 0≠(i:Int) then some d.pos else
 match formalsR p [] d.formals with
 | some q=>some q
 | none=>if d.kind=1 then (match parR p d.formals [] d.fields with
   | some q=>some q
   | none=>if d.name∈reachS p d.name then some d.pos else none) else sigsR p d.formals [] d.sigs
def varsR (p:Prog)(pre:List Str):List Str→Bool
 | []=>false
 | v::vs=>decide (kindOf p v≠0∨v∈pre) || varsR p (pre++[v]) vs
def recvR (d:Decl):Option Int→Option Int
 | some q=>some q
 | none=>(d.sig.params.find? fun f=>decide (f.name=d.recv)).map (·.pos)
def methodR (p:Prog)(i:Nat)(d:Decl):Option Int :=
 if kindOf p d.name≠1∨d.vars.length≠(formalsT p d.name).length then some d.pos else
 if varsR p [] d.vars=true then some d.pos else
 if methI p d.name d.sig.name≠(i:Int) then some d.pos else
 recvR d (sigR p (envR p d) d.sig)
def headR (p:Prog)(i:Nat)(d:Decl):Option Int:=if d.kind=1∨d.kind=2 then typedR p i d else if d.kind=3 then methodR p i d else some d.pos
def selfT (d:Decl):Ty:=.mk d.name (varTs d.vars) 0
def scopeT (p:Prog)(st:Bool)(d:Decl):TCtx:=⟨p,st,envR p d++d.sig.formals,⟨d.recv,selfT d,0⟩::d.sig.params⟩
def bodyT (p:Prog)(st:Bool)(d:Decl):Res:=if d.kind=3 then fitsT (scopeT p st d) d.sig.result d.body (typeE (scopeT p st d) d.body) else res0
def progL (p:Prog)(st:Bool):List Decl→Nat→Res
 | [],_=>(typeE ⟨p,st,[],[]⟩ p.main).2
 | d::ds,i=>match headR p i d with
  | some q=>badR q
  | none=>if (bodyT p st d).bad=true then bodyT p st d else progL p st ds (i+1)
def progT (p:Prog)(st:Bool):Res:=progL p st p.decls 0
abbrev q1Lx:List Nat:=[0,1,2,3,4,5,6,7,8,9,18,39]
theorem ok_Env15O (p:Prog)(h:p.Sm)(d:Decl)(hd:d.Sm):CallB prog 208 [prV p,deV d] [] (.acc 8) [(8,.rows 5 (foR (envR p d)))]:=by
 have hfl:=formalsT_Sm h d.name
 have hf:=ok_RefFormals p d.name
 have hnm:=ok_RefNames (formalsT p d.name) hfl.1
 have hvl:=hd.vars.1
 have hvs:∀ u,u∈varTs d.vars→u.Sm:=by
  intro u hu
  obtain⟨v,hv,rfl⟩:=List.mem_map.1 hu
  exact .mk _ _ _ (hd.vars.2 v hv) (by simp) (by simp)
 unfold envR
 generalize hL:formalsT p d.name=L at *
 refine bB func208 ?_
 refine sR q1Lx ?_
 (refine AWp.freeze 2 rfl rfl ?_;refine AWp.freeze 3 rfl rfl (wk [(2,.dptr (prC p) 0),(3,.dptr (deC d) 0),(4,.d .nil)] [] ?_))
 refine sC hf q1Lx ?_
 refine sR q1Lx ?_
 refine AWp.promote 6 3 6 rfl ?_
 refine kR q1Lx fun K1 u1=>?_
 refine AWp.block (AWp.forIdx d.vars (X:=Unit) (fun j _=>[(3,.dptr (deC d) 0),(5,.d (.slice (foR L))),(6,.acc 6),(7,intV j)]) (fun j _=>[(6,.rows 3 (tyR (varTs (d.vars.take j))))])
  (fun j _=>True) () trivial (by simp [sle,vle,sget,exC,tyC,foC,paC,siC,deC,prC]) (by simp [ble,bget,tyR_map,varTs]) ?_ ?_)
 rotate_left
 ·intro j _ s hs hmem dp tk hlt _
  rw [tk]
  refine kR1 hlt q1Lx fun K2 u2=>?_
  refine gI u2 ?_
  clear u2 K2
  refine sK fun K2 u2=>?_
  refine AWp.block ?_
  (refine lV q1Lx fun K z=>?_;refine ci (strR_get hs) ?_;refine⟨by simp,by simp only [varTs,List.length_map,List.length_take];unfold lim sm at *;omega,?_⟩;(try refine ev ?_);apply z;clear z K;try simp only [thenA,blockA,if_true])
  refine u2 _ _ ?_
  clear u2 K2
  (refine lV q1Lx fun K z=>?_;refine cl ?_;apply z;clear z K;try simp only [thenA,blockA,if_true])
  exact⟨(),trivial,(by simp [sle,vle,sget,exC,tyC,foC,paC,siC,deC,prC]),by simp [ble,bget,tyR_map,varTs,tyC,Ty.name,Ty.args,Ty.pos]⟩
 intro _ _
 rw [List.take_length]
 refine kR1 Int.lt_irrefl q1Lx fun K2 u2=>?_
 refine AWp.stopK rfl ?_
 simp only [thenA,blockA,if_true]
 refine u1 _ _ ?_
 clear u2 K2 u1 K1
 (refine AWp.publish 6 rfl (wk [(3,.dptr (deC d) 0),(5,.d (.slice (foR L))),(6,.d (.slice (tyR (varTs d.vars))))] [] ?_))
 refine sR q1Lx ?_
 refine AWp.promote 8 5 8 rfl ?_
 refine kR q1Lx fun K1 u1=>?_
 have hsub:∀ z,z∈L.zip d.vars→CallOK prog 47 [tyV z.1.bound,strsV (L.map (·.name)),tysV (varTs d.vars)] (tyV (z.1.bound.subst (fnames L) (varTs d.vars))):=fun z hz =>
  ok_RSubst (L.map (·.name)) (varTs d.vars) hvs z.1.bound (hfl.2 z.1 (List.of_mem_zip hz).1).bound
 refine AWp.block (AWp.forIdx (L.zip d.vars) (X:=Unit) (fun j _=>[(3,.dptr (deC d) 0),(5,.d (.slice (foR L))),(6,.d (.slice (tyR (varTs d.vars)))),(8,.acc 8),(9,intV j)])
  (fun j _=>[(8,.rows 5 (foR (((L.zip d.vars).take j).map fun z=>⟨z.2,z.1.bound.subst (fnames L) (varTs d.vars),z.1.pos⟩)))])
  (fun j _=>True) () trivial (by simp [sle,vle,sget,exC,tyC,foC,paC,siC,deC,prC]) (by simp [ble,bget,foR]) ?_ ?_)
 rotate_left
 ·intro j _ z hz hmem dp tk hlt _
  obtain⟨f,v⟩:=z
  rw [List.getElem?_zip_eq_some] at hz
  have hj1:=(List.getElem?_eq_some_iff.1 hz.1).1
  have hj2:=(List.getElem?_eq_some_iff.1 hz.2).1
  have hl1:(j:Int) < (L.length:Int):=by omega
  have hl2:(j:Int) < ((varTs d.vars).length:Int):=by simp only [varTs,List.length_map];omega
  have hs:=hsub (f,v) hmem
  simp only at hs
  have hzl:(L.zip d.vars).length≤sm:=by rw [List.length_zip];omega
  rw [tk]
  refine kR2 hl1 hl2 q1Lx fun K2 u2=>?_
  refine gI u2 ?_
  clear u2 K2
  refine sK fun K2 u2=>?_
  refine AWp.block ?_
  (refine lG q1Lx [] 22 [] fun K z=>?_;refine ev ?_;refine ci (strR_get hz.2) ?_;refine ci (foR_get hz.1) ?_;refine cc hnm ?_;refine cc hs ?_;refine ci (foR_get hz.1) ?_;refine⟨by simp,by simp only [List.length_map,List.length_take];unfold lim sm at *;omega,?_⟩;(try refine ev ?_);apply z;clear z K;try simp only [thenA,blockA,if_true])
  refine u2 _ _ ?_
  clear u2 K2
  (refine lV q1Lx fun K z=>?_;refine cl ?_;apply z;clear z K;try simp only [thenA,blockA,if_true])
  exact⟨(),trivial,(by simp [sle,vle,sget,exC,tyC,foC,paC,siC,deC,prC]),by simp [ble,bget,foR,foC]⟩
 intro _ _
 rw [List.take_length]
 have fin:∀ sl bx,sle sl [(8,.acc 8)]→ble bx [(8,.rows 5 (foR ((L.zip d.vars).map fun z=>⟨z.2,z.1.bound.subst (fnames L) (varTs d.vars),z.1.pos⟩)))]→K1 sl bx:=by
  intro sl bx h1 h2
  refine u1 _ _ (AWp.weaken h1 h2 ?_)
  clear u1 K1
  refine sR q1Lx ?_
  exact AWp.ret ⟨_,by rw [results208];rfl,.inl rfl,by simp [ble,bget]⟩
 refine sK fun K2 u2=>?_
 by_cases hl1:L.length≤d.vars.length
 ·have e:(L.zip d.vars).length=L.length:=by rw [List.length_zip];omega
  rw [e]
  refine sR1 Int.lt_irrefl q1Lx ?_
  refine AWp.stopK rfl ?_
  simp only [thenA,blockA,if_true]
  exact fin _ _ (by simp [sle,vle,sget,exC,tyC,foC,paC,siC,deC,prC]) (by simp [ble,bget,exC,tyC,foC,paC,siC,deC,prC])
 ·have e:(L.zip d.vars).length=d.vars.length:=by rw [List.length_zip];omega
  rw [e]
  have hl1:(d.vars.length:Int) < (L.length:Int):=by omega
  have hl2:¬ (d.vars.length:Int) < ((varTs d.vars).length:Int):=by simp [varTs]
  refine sR2 hl1 hl2 q1Lx ?_
  refine AWp.stopK rfl ?_
  simp only [thenA,blockA,if_true]
  exact fin _ _ (by simp [sle,vle,sget,exC,tyC,foC,paC,siC,deC,prC]) (by simp [ble,bget,exC,tyC,foC,paC,siC,deC,prC])
theorem ok_Env15 (p:Prog)(h:p.Sm)(d:Decl)(hd:d.Sm):CallOK prog 208 [prV p,deV d] (.d (.slice (foR (envR p d)))):=(ok_Env15O p h d hd).pub
abbrev rsC (r:Res):BoxC:=.cells [.d (.int .i64 r.pos),.d (.bool r.bad),.d (.bool r.large)]
abbrev q1Mx:List Nat:=[0,1,2,4,5,6,7,8,19,34,52,58,69,79]
set_option maxHeartbeats 4000000 in
theorem ok_typed15 (p:Prog)(h:p.Sm)(hpl:p.decls.length≤100000)(i:Nat)(d:Decl)(hd:p.decls[i]? = some d)(hk:d.kind=1∨d.kind=2)(hsz:∀ s,s∈d.sigs→d.formals.length+s.formals.length≤sm) :
  CallOK prog 134 [prV p,intV i] (rsV (resO (typedR p i d))):=by
 have hds:=h.decls.2 d (List.mem_of_getElem? hd)
 have hfi:=ok_Find p d.name
 have hfo:=ok_Formals15 p h [] d.formals (by simpa using hds.formals.1) (by simp) hds.formals.2
 have hpa:=ok_params15 p h d.formals hds.formals.1 hds.formals.2 d.fields hds.fields.1 hds.fields.2
 have hre:=ok_Reach p hpl d.name
 have hin:=ok_In (reachS p d.name) d.name
 unfold typedR
 refine cB func134 ?_
 refine sR q1Mx ?_
 (refine sV q1Mx fun K z=>?_;refine ci (deR_get hd) ?_;apply z;clear z K)
 (refine AWp.freeze 2 rfl rfl ?_;refine AWp.freeze 5 rfl rfl (wk [(1,intV i),(2,.dptr (prC p) 0),(4,.box 4 0),(5,.dptr (deC d) 0)] [(4,rs0)] ?_))
 by_cases h0:findD d.name p.decls 0=(i:Int)
 rotate_left
 ·rw [if_pos h0]
  refine sK fun K1 u1=>?_
  (refine sQ q1Mx fun K z=>?_;refine ev1 h0 ?_;refine⟨_,.inl ⟨_,rfl,hfi,rfl⟩,?_⟩;(try refine ev1 h0 ?_);apply z;clear z K)
  refine tI ?_
  refine sR q1Mx ?_
  exact aR
 rw [if_neg fun hh=>hh h0]
 rw [h0] at hfi
 refine kC hfi q1Mx fun K1 u1=>?_
 refine kI u1 ?_
 clear u1 K1
 cases hf:formalsR p [] d.formals with
 | some q =>
  rw [hf] at hfo
  simp only [rsV,resO,badR,res0] at hfo
  refine sC hfo q1Mx ?_
  refine kR q1Mx fun K1 u1=>?_
  refine AWp.condF rfl (AWp.skip (u1 _ _ ?_))
  clear u1 K1
  refine sK fun K1 u1=>?_
  rcases hk with k1 | k2
  ·refine sR1 k1 q1Mx ?_
   refine tI ?_
   refine sR q1Mx ?_
   exact aR
  ·have k1:¬ d.kind=1:=by omega
   refine sR1 k1 q1Mx ?_
   refine kI u1 ?_
   clear u1 K1
   refine sR q1Mx ?_
   refine kR q1Mx fun K1 u1=>?_
   refine AWp.block (AWp.loop (X:=Unit) (fun _=>[(1,intV i),(2,.dptr (prC p) 0),(4,.box 4 0),(5,.dptr (deC d) 0),(6,.box 6 0),(8,intV 0)]) (fun _=>[(4,rs0),(6,rsC (badR q))]) (fun _=>True) (fun _=>0) () trivial (by simp [sle,vle,sget,exC,tyC,foC,paC,siC,deC,prC]) (by simp [ble,bget,badR]) ?_)
   intro _ _
   refine sK fun K2 u2=>?_
   by_cases hl:(0:Int) < (d.sigs.length:Int)
   ·refine sR1 hl q1Mx ?_
    refine AWp.stopK rfl ?_
    simp only [thenA,blockA,if_true]
    refine u1 _ _ ?_
    refine sR q1Mx ?_
    exact aR
   ·refine sR1 hl q1Mx ?_
    refine AWp.stopK rfl ?_
    simp only [thenA,blockA,if_true]
    refine u1 _ _ ?_
    refine sR q1Mx ?_
    exact aR
 | none =>
  rw [hf] at hfo
  simp only [rsV,resO,badR,res0] at hfo
  simp only
  refine sC hfo q1Mx ?_
  by_cases k1:d.kind=1
  ·rw [if_pos k1]
   cases hp:parR p d.formals [] d.fields with
   | some q =>
    rw [hp] at hpa
    simp only [rsV,resO,badR,res0] at hpa
    refine kR1 k1 q1Mx fun K1 u1=>?_
    refine AWp.condT rfl ?_
    refine sC hpa q1Mx ?_
    refine dR q1Mx 10 ?_
    refine AWp.condF rfl (AWp.skip ?_)
    simp only [thenA,blockA,if_true]
    refine u1 _ _ ?_
    clear u1 K1
    refine kR1 k1 q1Mx fun K1 u1=>?_
    refine tI ?_
    refine sR q1Mx ?_
    exact aR
   | none =>
    rw [hp] at hpa
    simp only [rsV,resO,badR,res0] at hpa
    simp only
    by_cases hm:d.name∈reachS p d.name
    ·rw [if_pos hm]
     rw [decide_eq_true hm] at hin
     refine kR1 k1 q1Mx fun K1 u1=>?_
     refine AWp.condT rfl ?_
     refine sC hpa q1Mx ?_
     (refine sG q1Mx [] 10 [] fun K z=>?_;refine ev ?_;refine cc hre ?_;refine cc hin ?_;apply z;clear z K)
     refine AWp.condT rfl ?_
     (refine lV q1Mx fun K z=>?_;apply z;clear z K;try simp only [thenA,blockA,if_true])
     refine u1 _ _ ?_
     clear u1 K1
     refine kR1 k1 q1Mx fun K1 u1=>?_
     refine tI ?_
     refine sR q1Mx ?_
     exact aR
    ·rw [if_neg hm]
     rw [decide_eq_false hm] at hin
     refine kR1 k1 q1Mx fun K1 u1=>?_
     refine AWp.condT rfl ?_
     refine sC hpa q1Mx ?_
     (refine sG q1Mx [] 10 [] fun K z=>?_;refine ev ?_;refine cc hre ?_;refine cc hin ?_;apply z;clear z K)
     refine AWp.condF rfl (AWp.skip ?_)
     simp only [thenA,blockA,if_true]
     refine u1 _ _ ?_
     clear u1 K1
     refine kR1 k1 q1Mx fun K1 u1=>?_
     refine tI ?_
     refine sR q1Mx ?_
     exact aR
  rw [if_neg k1]
  refine kR1 k1 q1Mx fun K1 u1=>?_
  refine AWp.condF rfl (AWp.skip (u1 _ _ ?_))
  clear u1 K1
  refine kR1 k1 q1Mx fun K1 u1=>?_
  refine kI u1 ?_
  clear u1 K1
  refine sR q1Mx ?_
  refine AWp.promote 7 1 7 rfl ?_
  refine kR q1Mx fun K1 u1=>?_
  have fin:∀ (r:Res),r=resO (sigsR p d.formals [] d.sigs)→∀ sl bx,sle sl [(4,.box 4 0),(6,.box 6 0)]→ble bx [(4,rs0),(6,rsC r)]→K1 sl bx:=by
   intro r hr sl bx h1 h2
   refine u1 _ _ (AWp.weaken h1 h2 ?_)
   clear u1 K1
   refine sR q1Mx ?_
   rw [← hr]
   exact aR
  refine AWp.block (AWp.loop (X:=Nat × Option Int) (fun x=>[(1,intV i),(2,.dptr (prC p) 0),(4,.box 4 0),(5,.dptr (deC d) 0),(6,.box 6 0),(7,.acc 7),(8,intV x.1)]) (fun x=>[(4,rs0),(6,rsC (resO x.2)),(7,.rows 1 (strR ((d.sigs.take x.1).map (·.name))))])
   (fun x=>x.1≤d.sigs.length∧(match x.2 with | some q=>sigsR p d.formals [] d.sigs=some q | none=>sigsR p d.formals ((d.sigs.take x.1).map (·.name)) (d.sigs.drop x.1)=sigsR p d.formals [] d.sigs))
   (fun x=>d.sigs.length - x.1) (0,none) ⟨by simp,by simp⟩ (by simp [sle,vle,sget,exC,tyC,foC,paC,siC,deC,prC]) (by simp [ble,bget,berase,strR,resO,res0]) ?_)
  rintro⟨j,o⟩ ⟨hj,hI⟩
  simp only at hj hI
  by_cases hlt:j < d.sigs.length
  ·have hlt':(j:Int) < (d.sigs.length:Int):=by omega
   cases o with
   | some q =>
    simp only at hI
    refine kR1 hlt' q1Mx fun K2 u2=>?_
    refine AWp.stopK rfl ?_
    simp only [thenA,blockA,if_true]
    exact fin (badR q) (by rw [hI];rfl) _ _ (by simp [sle,vle,sget,exC,tyC,foC,paC,siC,deC,prC]) (by simp [ble,bget,resO])
   | none =>
    simp only at hI
    have hs:d.sigs[j]? = some d.sigs[j]:=List.getElem?_eq_getElem hlt
    have hmem:d.sigs[j]∈d.sigs:=List.getElem_mem hlt
    have dp:d.sigs.drop j=d.sigs[j]::d.sigs.drop (j+1):=List.drop_eq_getElem_cons hlt
    have tk:d.sigs.take (j+1)=d.sigs.take j++[d.sigs[j]]:=List.take_succ_eq_append_getElem hlt
    have hsg:=ok_Sig15 p h d.formals d.sigs[j] (hsz _ hmem) hds.formals.2 (hds.sigs.2 _ hmem)
    have hdl:=hds.sigs.1
    generalize d.sigs[j]=s at *
    rw [dp,sigsR] at hI
    have hin:=ok_In ((d.sigs.take j).map (·.name)) s.name
    refine kR1 hlt' q1Mx fun K2 u2=>?_
    refine gI u2 ?_
    clear u2 K2
    refine sK fun K2 u2=>?_
    refine AWp.block ?_
    refine sK fun K3 u3=>?_
    by_cases hm:s.name∈(d.sigs.take j).map (·.name)
    ·rw [if_pos hm] at hI
     rw [← hI]
     rw [decide_eq_true hm] at hin
     (refine sV q1Mx fun K z=>?_;refine ci (siR_get hs) ?_;refine⟨_,.inr ⟨_,rfl,hin,rfl⟩,?_⟩;(try refine ev ?_);apply z;clear z K)
     refine tI ?_
     (refine sV q1Mx fun K z=>?_;refine ci (siR_get hs) ?_;apply z;clear z K)
     exact aR
    rw [if_neg hm] at hI
    rw [decide_eq_false hm] at hin
    (refine sV q1Mx fun K z=>?_;refine ci (siR_get hs) ?_;refine⟨_,.inr ⟨_,rfl,hin,rfl⟩,?_⟩;(try refine ev ?_);apply z;clear z K)
    refine kI u3 ?_
    clear u3 K3
    (refine sV q1Mx fun K z=>?_;refine ci (siR_get hs) ?_;refine⟨by simp,by simp only [List.length_map,List.length_take];unfold lim sm at *;omega,?_⟩;(try refine ev ?_);apply z;clear z K)
    (refine lG q1Mx [] 8 [] fun K z=>?_;refine ev ?_;refine ci (siR_get hs) ?_;refine cc hsg ?_;apply z;clear z K;try simp only [thenA,blockA,if_true])
    refine u2 _ _ ?_
    clear u2 K2
    (refine lV q1Mx fun K z=>?_;refine cl ?_;apply z;clear z K;try simp only [thenA,blockA,if_true])
    refine⟨(j+1,sigR p d.formals s),⟨by omega,?_⟩,by simp only;omega,(by simp [sle,vle,sget,exC,tyC,foC,paC,siC,deC,prC]),?_⟩
    ·simp only
     cases hq:sigR p d.formals s with
     | some q=>rw [hq] at hI;exact hI.symm
     | none=>rw [hq] at hI;simp only;rw [tk,List.map_append];exact hI
    ·simp only
     rw [tk,List.map_append]
     cases sigR p d.formals s <;> simp [ble,bget,berase,strR,resO,res0,badR]
  ·have hj':j=d.sigs.length:=by omega
   subst hj'
   refine sK fun K2 u2=>?_
   cases o with
   | some q =>
    simp only at hI
    refine sR1 Int.lt_irrefl q1Mx ?_
    refine AWp.stopK rfl ?_
    simp only [thenA,blockA,if_true]
    exact fin (badR q) (by rw [hI];rfl) _ _ (by simp [sle,vle,sget,exC,tyC,foC,paC,siC,deC,prC]) (by simp [ble,bget,resO])
   | none =>
    simp only at hI
    rw [List.drop_length,sigsR] at hI
    refine sR1 Int.lt_irrefl q1Mx ?_
    refine AWp.stopK rfl ?_
    simp only [thenA,blockA,if_true]
    exact fin res0 (by rw [← hI];rfl) _ _ (by simp [sle,vle,sget,exC,tyC,foC,paC,siC,deC,prC]) (by simp [ble,bget,resO])
theorem varTs_Sm {d:Decl} (hd:d.Sm):∀ u,u∈varTs d.vars→u.Sm:=by
 intro u hu
 obtain⟨v,hv,rfl⟩:=List.mem_map.1 hu
 exact .mk _ _ _ (hd.vars.2 v hv) (by simp) (by simp)
theorem envR_Sm {p:Prog} (h:p.Sm) {d:Decl} (hd:d.Sm):∀ f,f∈envR p d→f.Sm:=by
 intro f hf
 unfold envR at hf
 obtain⟨⟨l,v⟩,hz,rfl⟩:=List.mem_map.1 hf
 have hl:=(formalsT_Sm h d.name).2 l (List.of_mem_zip hz).1
 exact⟨hd.vars.2 v (List.of_mem_zip hz).2,hl.bound.subst (varTs_Sm hd)⟩
theorem envR_len (p:Prog)(d:Decl):(envR p d).length≤d.vars.length:=by
 unfold envR;rw [List.length_map,List.length_zip];omega
abbrev q1Nx:List Nat:=[0,1,2,4,5,6,7,8,9,33,39,61,71,90,102]
set_option maxHeartbeats 4000000 in
theorem ok_method15 (p:Prog)(h:p.Sm)(i:Nat)(d:Decl)(hd:p.decls[i]? = some d)(hsz:d.vars.length+d.sig.formals.length≤sm) :
  CallOK prog 135 [prV p,intV i] (rsV (resO (methodR p i d))):=by
 have hds:=h.decls.2 d (List.mem_of_getElem? hd)
 have hki:=ok_Kind p d.name
 have hfo:=ok_RefFormals p d.name
 have hfm:=ok_FindMethod p h.decls.1 d.name d.sig.name
 have henv:=ok_Env15 p h d hds
 have hel:=envR_len p d
 have hsg:=ok_Sig15 p h (envR p d) d.sig (by omega) (envR_Sm h hds) hds.sig
 have hvl:=hds.vars.1
 unfold methodR
 generalize envR p d=ev at *
 generalize formalsT p d.name=L at *
 refine cB func135 ?_
 refine sR q1Nx ?_
 (refine sV q1Nx fun K z=>?_;refine ci (deR_get hd) ?_;apply z;clear z K)
 refine sR q1Nx ?_
 (refine AWp.freeze 2 rfl rfl ?_;refine AWp.freeze 5 rfl rfl (wk [(1,intV i),(2,.dptr (prC p) 0),(4,.box 4 0),(5,.dptr (deC d) 0),(6,.box 6 0)] [(4,rs0),(6,rsC (badR d.pos))] ?_))
 refine sK fun K1 u1=>?_
 by_cases a1:kindOf p d.name=1
 rotate_left
 ·rw [if_pos (.inl a1)]
  (refine sG q1Nx [] 14 [] fun K z=>?_;refine Go.Abs.ev1 a1 ?_;refine⟨_,.inl ⟨_,rfl,hki,rfl⟩,?_⟩;(try refine Go.Abs.ev1 a1 ?_);apply z;clear z K)
  refine tI ?_
  refine sR q1Nx ?_
  exact aR
 by_cases a2:d.vars.length=L.length
 rotate_left
 ·rw [if_pos (.inr a2)]
  have a2':¬ (d.vars.length:Int)=(L.length:Int):=by omega
  (refine sG q1Nx [] 14 [] fun K z=>?_;refine Go.Abs.ev2 a1 a2' ?_;refine⟨_,.inl ⟨_,rfl,hki,rfl⟩,?_⟩;(try refine Go.Abs.ev2 a1 a2' ?_);refine⟨_,.inl ⟨_,rfl,hfo,rfl⟩,?_⟩;(try refine Go.Abs.ev2 a1 a2' ?_);apply z;clear z K)
  refine tI ?_
  refine sR q1Nx ?_
  exact aR
 rw [if_neg (by rintro (hh | hh);exact hh a1;exact hh a2)] at u1 ⊢
 have a2':(d.vars.length:Int)=(L.length:Int):=by omega
 (refine sG q1Nx [] 14 [] fun K z=>?_;refine Go.Abs.ev2 a1 a2' ?_;refine⟨_,.inl ⟨_,rfl,hki,rfl⟩,?_⟩;(try refine Go.Abs.ev2 a1 a2' ?_);refine⟨_,.inl ⟨_,rfl,hfo,rfl⟩,?_⟩;(try refine Go.Abs.ev2 a1 a2' ?_);apply z;clear z K)
 refine kI u1 ?_
 clear u1 K1 a1 a2 a2'
 refine kR q1Nx fun K1 u1=>?_
 refine AWp.block (AWp.forIdx d.vars (X:=Unit) (fun j _=>[(1,intV i),(2,.dptr (prC p) 0),(4,.box 4 0),(5,.dptr (deC d) 0),(6,.box 6 0),(7,intV j)]) (fun _ _=>[(4,rs0),(6,rsC (badR d.pos))])
  (fun j _=>varsR p (d.vars.take j) (d.vars.drop j)=varsR p [] d.vars) () (by simp) (by simp [sle,vle,sget,exC,tyC,foC,paC,siC,deC,prC]) (by simp [ble,bget,badR]) ?_ ?_)
 rotate_left
 ·intro j _ s hs hmem dp tk hlt hI
  rw [dp,varsR] at hI
  have hkv:=ok_Kind p s
  have hin:CallOK prog 205 [.d (.slice ((strR d.vars).take j)),strV s] (boolV (decide (s∈d.vars.take j))):=by
   rw [strR,← List.map_take];exact ok_In (d.vars.take j) s
  refine kR1 hlt q1Nx fun K2 u2=>?_
  refine gI u2 ?_
  clear u2 K2
  refine sK fun K2 u2=>?_
  refine AWp.block ?_
  by_cases b1:kindOf p s=0
  rotate_left
  ·rw [decide_eq_true (.inl b1),Bool.true_or] at hI
   rw [if_pos hI.symm]
   (refine sG q1Nx [] 18 [] fun K z=>?_;refine Go.Abs.ev1 b1 ?_;refine⟨by omega,_,strR_get hs,rfl,?_⟩;(try refine Go.Abs.ev1 b1 ?_);refine⟨_,.inl ⟨_,rfl,hkv,rfl⟩,?_⟩;(try refine Go.Abs.ev1 b1 ?_);apply z;clear z K)
   refine AWp.condT rfl ?_
   refine sR q1Nx ?_
   exact aR
  by_cases b2:s∈d.vars.take j
  ·rw [decide_eq_true (.inr b2),Bool.true_or] at hI
   rw [if_pos hI.symm]
   rw [decide_eq_true b2] at hin
   (refine sG q1Nx [] 18 [] fun K z=>?_;refine Go.Abs.ev1 b1 ?_;refine⟨by omega,_,strR_get hs,rfl,?_⟩;(try refine Go.Abs.ev1 b1 ?_);refine⟨_,.inl ⟨_,rfl,hkv,rfl⟩,?_⟩;(try refine Go.Abs.ev1 b1 ?_);refine⟨strR_row _,by omega,by omega,?_⟩;(try refine Go.Abs.ev1 b1 ?_);refine⟨by omega,_,strR_get hs,rfl,?_⟩;(try refine Go.Abs.ev1 b1 ?_);refine⟨_,.inl ⟨_,rfl,hin,rfl⟩,?_⟩;(try refine Go.Abs.ev1 b1 ?_);apply z;clear z K)
   refine AWp.condT rfl ?_
   refine sR q1Nx ?_
   exact aR
  rw [decide_eq_false (by rintro (hh | hh);exact hh b1;exact b2 hh),Bool.false_or] at hI
  rw [decide_eq_false b2] at hin
  (refine sG q1Nx [] 18 [] fun K z=>?_;refine Go.Abs.ev1 b1 ?_;refine⟨by omega,_,strR_get hs,rfl,?_⟩;(try refine Go.Abs.ev1 b1 ?_);refine⟨_,.inl ⟨_,rfl,hkv,rfl⟩,?_⟩;(try refine Go.Abs.ev1 b1 ?_);refine⟨strR_row _,by omega,by omega,?_⟩;(try refine Go.Abs.ev1 b1 ?_);refine⟨by omega,_,strR_get hs,rfl,?_⟩;(try refine Go.Abs.ev1 b1 ?_);refine⟨_,.inl ⟨_,rfl,hin,rfl⟩,?_⟩;(try refine Go.Abs.ev1 b1 ?_);apply z;clear z K)
  refine AWp.condF rfl (AWp.skip (u2 _ _ ?_))
  clear u2 K2
  (refine lV q1Nx fun K z=>?_;refine cl ?_;apply z;clear z K;try simp only [thenA,blockA,if_true])
  exact⟨(),by rw [tk];exact hI,(by simp [sle,vle,sget,exC,tyC,foC,paC,siC,deC,prC]),(by simp [ble,bget,badR])⟩
 intro _ hI
 rw [List.drop_length,varsR] at hI
 rw [← hI,if_neg (by decide)] at u1 ⊢
 clear hI
 refine kR1 Int.lt_irrefl q1Nx fun K2 u2=>?_
 refine AWp.stopK rfl ?_
 simp only [thenA,blockA,if_true]
 refine u1 _ _ ?_
 clear u2 K2 u1 K1
 refine sK fun K1 u1=>?_
 by_cases a3:methI p d.name d.sig.name=(i:Int)
 rotate_left
 ·rw [if_pos a3]
  (refine sQ q1Nx fun K z=>?_;refine Go.Abs.ev1 a3 ?_;refine⟨_,.inl ⟨_,rfl,hfm,rfl⟩,?_⟩;(try refine Go.Abs.ev1 a3 ?_);apply z;clear z K)
  refine tI ?_
  refine sR q1Nx ?_
  exact aR
 rw [if_neg fun hh=>hh a3] at u1 ⊢
 rw [a3] at hfm
 refine sC hfm q1Nx ?_
 refine kI u1 ?_
 clear u1 K1
 generalize hq:sigR p ev d.sig=o at *
 generalize hR:recvR d o=R at *
 (refine sG q1Nx [] 8 [⟨[],[],[8],[8]⟩,⟨[],[],[8],[8]⟩,⟨[],[],[8],[8]⟩,⟨[],[],[8],[8]⟩,⟨[],[],[8],[8]⟩,⟨[],[],[8],[8]⟩,⟨[],[],[8],[8]⟩,⟨[8],[8],[],[]⟩] fun K z=>?_;refine Go.Abs.ev ?_;refine cc henv ?_;refine cc hsg ?_;apply z;clear z K)
 refine kR q1Nx fun K1 u1=>?_
 have fin:∀ (r:Res),r=resO R→∀ sl bx,sle sl [(4,.box 4 0),(8,.box 8 0)]→ble bx [(4,rs0),(8,rsC r)]→K1 sl bx:=by
  intro r hr sl bx h1 h2
  refine u1 _ _ (AWp.weaken h1 h2 ?_)
  clear u1 K1
  refine sR q1Nx ?_
  rw [← hr]
  exact aR
 refine AWp.block (AWp.loop (X:=Nat × Option Int) (fun x=>[(1,intV i),(2,.dptr (prC p) 0),(4,.box 4 0),(5,.dptr (deC d) 0),(8,.box 8 0),(9,intV x.1)]) (fun x=>[(4,rs0),(8,rsC (resO x.2))])
  (fun x=>x.1≤d.sig.params.length∧(match x.2 with | some q=>R=some q | none=>R=((d.sig.params.drop x.1).find? fun f=>decide (f.name=d.recv)).map (·.pos)))
  (fun x=>d.sig.params.length - x.1) (0,o) ⟨by simp,by cases o <;> exact hR.symm⟩ (by simp [sle,vle,sget,exC,tyC,foC,paC,siC,deC,prC]) (by simp [ble,bget,resO]) ?_)
 rintro⟨j,o⟩ ⟨hj,hI⟩
 simp only at hj hI
 by_cases hlt:j < d.sig.params.length
 ·have hlt':(j:Int) < (d.sig.params.length:Int):=by omega
  cases o with
  | some q =>
   simp only at hI
   refine kR1 hlt' q1Nx fun K2 u2=>?_
   refine AWp.stopK rfl ?_
   simp only [thenA,blockA,if_true]
   exact fin (badR q) (by rw [hI];rfl) _ _ (by simp [sle,vle,sget,exC,tyC,foC,paC,siC,deC,prC]) (by simp [ble,bget,resO])
  | none =>
   simp only at hI
   have hs:d.sig.params[j]? = some d.sig.params[j]:=List.getElem?_eq_getElem hlt
   have dp:d.sig.params.drop j=d.sig.params[j]::d.sig.params.drop (j+1):=List.drop_eq_getElem_cons hlt
   have hdl:=hds.sig.params.1
   generalize d.sig.params[j]=s at *
   rw [dp,List.find?_cons] at hI
   refine kR1 hlt' q1Nx fun K2 u2=>?_
   refine gI u2 ?_
   clear u2 K2
   refine sK fun K2 u2=>?_
   refine AWp.block ?_
   by_cases hm:s.name=d.recv
   ·rw [decide_eq_true hm] at hI
    (refine sG q1Nx [] 9 [] fun K z=>?_;refine Go.Abs.ev1 hm ?_;refine⟨by omega,_,paR_get hs,rfl,?_⟩;(try refine Go.Abs.ev1 hm ?_);apply z;clear z K)
    refine AWp.condT rfl ?_
    (refine lV q1Nx fun K z=>?_;refine ci (paR_get hs) ?_;apply z;clear z K;try simp only [thenA,blockA,if_true])
    refine u2 _ _ ?_
    clear u2 K2
    (refine lV q1Nx fun K z=>?_;refine cl ?_;apply z;clear z K;try simp only [thenA,blockA,if_true])
    exact⟨(j+1,some s.pos),⟨by omega,by simpa using hI⟩,by simp only;omega,(by simp [sle,vle,sget,exC,tyC,foC,paC,siC,deC,prC]),by simp [ble,bget,resO,badR]⟩
   ·rw [decide_eq_false hm] at hI
    (refine sG q1Nx [] 9 [] fun K z=>?_;refine Go.Abs.ev1 hm ?_;refine⟨by omega,_,paR_get hs,rfl,?_⟩;(try refine Go.Abs.ev1 hm ?_);apply z;clear z K)
    refine AWp.condF rfl (AWp.skip (u2 _ _ ?_))
    clear u2 K2
    (refine lV q1Nx fun K z=>?_;refine cl ?_;apply z;clear z K;try simp only [thenA,blockA,if_true])
    exact⟨(j+1,none),⟨by omega,hI⟩,by simp only;omega,(by simp [sle,vle,sget,exC,tyC,foC,paC,siC,deC,prC]),by simp [ble,bget,resO]⟩
 ·have hj':j=d.sig.params.length:=by omega
  subst hj'
  refine kR1 Int.lt_irrefl q1Nx fun K2 u2=>?_
  refine AWp.stopK rfl ?_
  simp only [thenA,blockA,if_true]
  cases o with
  | some q =>
   simp only at hI
   exact fin (badR q) (by rw [hI];rfl) _ _ (by simp [sle,vle,sget,exC,tyC,foC,paC,siC,deC,prC]) (by simp [ble,bget,resO])
  | none =>
   simp only at hI
   rw [List.drop_length] at hI
   exact fin res0 (by rw [hI];rfl) _ _ (by simp [sle,vle,sget,exC,tyC,foC,paC,siC,deC,prC]) (by simp [ble,bget,resO])
structure Decl.Two (d:Decl):Prop where
 sigs:∀ s,s∈d.sigs→d.formals.length+s.formals.length≤sm
 sig:d.vars.length+d.sig.formals.length≤sm
theorem Decl.Nn.two {d:Decl} (h:d.Nn):d.Two:=⟨fun s hs=>by have:=(h.sigs s hs).flen;have:=h.flen;unfold sm;omega,by have:=h.sig.flen;have:=h.vlen;unfold sm;omega⟩
abbrev q2Nx:List Nat:=[0,1,2,4,5,14,27,32]
theorem ok_Head15 (p:Prog)(h:p.Sm)(hpl:p.decls.length≤100000)(i:Nat)(d:Decl)(hd:p.decls[i]? = some d)(h2:d.Two):CallOK prog 71 [prV p,intV i] (rsV (resO (headR p i d))):=by
 have hlt:=(List.getElem?_eq_some_iff.1 hd).1
 have g1:¬ (i:Int) < 0:=by omega
 have g2:¬ (i:Int) ≥ (p.decls.length:Int):=by omega
 unfold headR
 by_cases hk:d.kind=1∨d.kind=2
 ·rw [if_pos hk]
  have hc:=ok_typed15 p h hpl i d hd hk h2.sigs
  generalize resO (typedR p i d)=r at *
  refine cB func71 ?_
  refine sR q2Nx ?_
  refine kR2 g1 g2 q2Nx fun K1 u1=>?_
  refine kI u1 ?_
  clear u1 K1
  (refine sV q2Nx fun K z=>?_;refine ci (deR_get hd) ?_;apply z;clear z K)
  refine sK fun K1 u1=>?_
  by_cases k1:d.kind=1
  ·refine sR1 k1 q2Nx ?_
   refine tI ?_
   refine sC hc q2Nx ?_
   exact aR
  ·have k2:d.kind=2:=by omega
   refine sR2 k1 k2 q2Nx ?_
   refine tI ?_
   refine sC hc q2Nx ?_
   exact aR
 rw [if_neg hk]
 obtain⟨k1,k2⟩:=not_or.1 hk
 by_cases k3:d.kind=3
 ·rw [if_pos k3]
  have hc:=ok_method15 p h i d hd h2.sig
  generalize resO (methodR p i d)=r at *
  refine cB func71 ?_
  refine sR q2Nx ?_
  refine kR2 g1 g2 q2Nx fun K1 u1=>?_
  refine kI u1 ?_
  clear u1 K1
  (refine sV q2Nx fun K z=>?_;refine ci (deR_get hd) ?_;apply z;clear z K)
  refine kR2 k1 k2 q2Nx fun K1 u1=>?_
  refine kI u1 ?_
  clear u1 K1
  refine kR1 k3 q2Nx fun K1 u1=>?_
  refine tI ?_
  refine sC hc q2Nx ?_
  exact aR
 rw [if_neg k3]
 refine cB func71 ?_
 refine sR q2Nx ?_
 refine kR2 g1 g2 q2Nx fun K1 u1=>?_
 refine kI u1 ?_
 clear u1 K1
 (refine sV q2Nx fun K z=>?_;refine ci (deR_get hd) ?_;apply z;clear z K)
 refine kR2 k1 k2 q2Nx fun K1 u1=>?_
 refine kI u1 ?_
 clear u1 K1
 refine kR1 k3 q2Nx fun K1 u1=>?_
 refine kI u1 ?_
 clear u1 K1
 (refine sV q2Nx fun K z=>?_;refine ci (deR_get hd) ?_;apply z;clear z K)
 exact aR
abbrev tcV (c:TCtx):SV:=.agg [.d (.slice (deR c.p.decls)),.d (.int .i64 c.p.main.kind),.d (.str c.p.main.name),.d (.str c.p.main.type.name),.d (.slice (tyR c.p.main.type.args)),.d (.int .i64 c.p.main.type.pos),.d (.slice (tyR c.p.main.targs)),.d (.slice (exR c.p.main.kids)),.d (.int .i64 c.p.main.pos),.d (.bool c.strict),.d (.slice (foR c.env)),.d (.slice (paR c.vars))]
def tcC (c:TCtx):List D:=[.slice (deR c.p.decls),.int .i64 c.p.main.kind,.str c.p.main.name,.str c.p.main.type.name,.slice (tyR c.p.main.type.args),.int .i64 c.p.main.type.pos,.slice (tyR c.p.main.targs),.slice (exR c.p.main.kids),.int .i64 c.p.main.pos,.bool c.strict,.slice (foR c.env),.slice (paR c.vars)]
abbrev trV (z:Ty × Res):SV:=.tuple [tyV z.1,rsV z.2]
abbrev ty0C:BoxC:=.cells [.d (.str []),.d .nil,.d (.int .i64 0)]
structure TCtx.Sm (c:TCtx):Prop where
 p:c.p.Sm
 el:c.env.length≤sm
 env:∀ f,f∈c.env→f.Sm
 vl:c.vars.length≤sm
 vars:∀ f,f∈c.vars→f.Sm
theorem fieldsT_Sm {p:Prog} (h:p.Sm) {x:Ty} (hx:x.Sm):∀ f,f∈fieldsT p x→f.Sm:=by
 intro f hf
 unfold fieldsT at hf
 split at hf
 ·rename_i hi
  obtain⟨d,hd,_⟩:=inst_decl (by decide) hi
  rw [hd,Option.getD_some] at hf
  unfold fieldsD at hf
  obtain⟨g,hg,rfl⟩:=List.mem_map.1 hf
  have:=(h.decls.2 d (declT_mem hd)).fields.2 g hg
  exact⟨this.name,this.type.subst hx.arg⟩
 ·simp at hf
theorem ty0_Sm:ty0.Sm:=.mk _ _ _ (by simp) (by simp) (by simp)
theorem typeE_Sm {c:TCtx} (hc:c.Sm):∀ e:Ex,e.Sm→(typeE c e).1.Sm:=by
 intro e
 induction e using Ex.induct with | _ e ih=>?_
 intro he
 rw [typeE_eq]
 unfold typeN
 split
 ·unfold varTy
  split
  ·rename_i f hf
   split
   ·exact ty0_Sm
   ·exact (hc.vars f (List.mem_of_getElem? hf)).type
  ·exact ty0_Sm
 split
 ·unfold litT
  split
  ·exact ty0_Sm
  ·split
   ·exact ty0_Sm
   ·exact he.type
 split
 ·exact ty0_Sm
 split
 ·exact ty0_Sm
 ·rename_i z zs hz
  cases hks:e.kids with
  | nil=>rw [hks] at hz;simp at hz
  | cons v vs =>
   rw [hks] at hz
   simp only [List.map_cons,List.cons.injEq] at hz
   obtain⟨rfl,rfl⟩:=hz
   have hv:=ih v (by rw [hks];simp) (he.kids.2 v (by rw [hks];simp))
   split
   ·exact hv
   split
   ·unfold callT
    split
    ·exact ty0_Sm
    ·rename_i s hs
     unfold foundT
     split
     ·exact ty0_Sm
     ·have hsm:s∈setT c.p c.env (typeE c v).1:=by
       unfold sigT at hs
       split at hs
       ·cases hs
       ·rename_i s' hs'
        split at hs
        ·cases hs
        ·split at hs
         ·cases hs
         ·split at hs
          ·cases hs
          ·split at hs
           ·cases hs
           ·cases hs;exact List.mem_of_getElem? hs'
      exact (setT_Sm hc.p hc.env hv s hsm).result.subst he.targs.2
   split
   ·unfold fieldT
    split
    ·exact ty0_Sm
    ·split
     ·rename_i f hf
      split
      ·exact ty0_Sm
      ·unfold foundT
       split
       ·exact ty0_Sm
       ·exact (fieldsT_Sm hc.p hv f (List.mem_of_getElem? hf)).type
     ·exact ty0_Sm
   ·unfold assertT
    split
    ·exact ty0_Sm
    ·split
     ·exact ty0_Sm
     ·exact he.type
theorem ok_no16 (n:Int):CallOK prog 138 [intV n] (trV (noT n)):=by
 refine cB func138 ?_
 refine sR [0,2,3] ?_
 refine sR [0,2,3] ?_
 exact aR
abbrev q1Ox:List Nat:=[0,1,2,3,4,5,13]
theorem ok_found16 (x:Ty)(r:Res):CallOK prog 143 [tyV x,rsV r] (trV (foundT (x,r))):=by
 have hc:=ok_Count04 x 0 (by decide) (by decide)
 obtain⟨q,b,l⟩:=r
 unfold foundT
 simp only
 refine cB func143 ?_
 refine sR q1Ox ?_
 (refine AWp.freeze 2 rfl rfl ?_;refine AWp.freeze 3 rfl rfl (wk [(2,.dptr (tyC x) 0),(3,.dptr [.int .i64 q,.bool b,.bool l] 0),(4,.box 4 0),(5,.box 5 0)] [(4,ty0C),(5,rs0)] ?_))
 cases b with
 | true =>
  rw [if_neg (by simp)]
  refine kR q1Ox fun K1 u1=>?_
  refine kI u1 ?_
  (refine sG q1Ox [] 3 [⟨[],[],[],[]⟩,⟨[],[],[4],[]⟩,⟨[4],[],[],[]⟩] fun K z=>?_;refine ev ?_;apply z;clear z K)
  exact aR
 | false =>
  by_cases h:400 < x.count 0
  ·rw [if_pos ⟨rfl,h⟩]
   refine sK fun K1 u1=>?_
   (refine sQ q1Ox fun K z=>?_;simp -implicitDefEqProofs only [EV,forall_const,implies_true,Nat.reduceAdd,Nat.reduceEqDiff,Nat.reduceBEq,Nat.reduceLeDiff,Nat.reduceSub,Nat.reduceMul,Int.reduceEq,Int.reduceLT,Int.reduceLE,Int.reduceSub,Int.reduceAdd,Int.reduceToNat,reduceCtorEq,Int.reduceNeg,TF3,TF4,TF9,TF25,TF75,gt_iff_lt,h];refine⟨_,.inl ⟨_,rfl,hc,rfl⟩,?_⟩;(try simp -implicitDefEqProofs only [EV,forall_const,implies_true,Nat.reduceAdd,Nat.reduceEqDiff,Nat.reduceBEq,Nat.reduceLeDiff,Nat.reduceSub,Nat.reduceMul,Int.reduceEq,Int.reduceLT,Int.reduceLE,Int.reduceSub,Int.reduceAdd,Int.reduceToNat,reduceCtorEq,Int.reduceNeg,TF3,TF4,TF9,TF25,TF75,gt_iff_lt,h]);apply z;clear z K)
   refine tI ?_
   refine sR q1Ox ?_
   exact aR
  ·rw [if_neg (fun hh=>h hh.2)]
   refine sK fun K1 u1=>?_
   (refine sQ q1Ox fun K z=>?_;simp -implicitDefEqProofs only [EV,forall_const,implies_true,Nat.reduceAdd,Nat.reduceEqDiff,Nat.reduceBEq,Nat.reduceLeDiff,Nat.reduceSub,Nat.reduceMul,Int.reduceEq,Int.reduceLT,Int.reduceLE,Int.reduceSub,Int.reduceAdd,Int.reduceToNat,reduceCtorEq,Int.reduceNeg,TF3,TF4,TF9,TF25,TF75,gt_iff_lt,h];refine⟨_,.inl ⟨_,rfl,hc,rfl⟩,?_⟩;(try simp -implicitDefEqProofs only [EV,forall_const,implies_true,Nat.reduceAdd,Nat.reduceEqDiff,Nat.reduceBEq,Nat.reduceLeDiff,Nat.reduceSub,Nat.reduceMul,Int.reduceEq,Int.reduceLT,Int.reduceLE,Int.reduceSub,Int.reduceAdd,Int.reduceToNat,reduceCtorEq,Int.reduceNeg,TF3,TF4,TF9,TF25,TF75,gt_iff_lt,h]);apply z;clear z K)
   refine kI u1 ?_
   (refine sG q1Ox [] 3 [⟨[],[],[],[]⟩,⟨[],[],[4],[]⟩,⟨[4],[],[],[]⟩] fun K z=>?_;refine ev ?_;apply z;clear z K)
   exact aR
theorem ok_isStruct16 (c:TCtx)(hc:c.Sm)(x:Ty):CallOK prog 140 [tcV c,tyV x] (boolV (structT c x)):=by
 have h1:=ok_RefFind c.env x hc.el
 have h2:=ok_RefInstance c.p x 1
 unfold structT
 generalize findV c.env x=z at *
 generalize instB c.p x 1=b at *
 by_cases hz:z < 0
 ·rw [decide_eq_true hz,Bool.true_and]
  refine cB func140 ?_
  refine sR [0,1,2,3,4] ?_
  (refine sQ [0,1,2,3,4] fun K z=>?_;refine ev1 hz ?_;refine⟨_,.inl ⟨_,rfl,h1,rfl⟩,?_⟩;(try refine ev1 hz ?_);refine⟨_,.inl ⟨_,rfl,h2,rfl⟩,?_⟩;(try refine ev1 hz ?_);apply z;clear z K)
  exact aR
 ·rw [decide_eq_false hz,Bool.false_and]
  refine cB func140 ?_
  refine sR [0,1,2,3,4] ?_
  (refine sQ [0,1,2,3,4] fun K z=>?_;refine ev1 hz ?_;refine⟨_,.inl ⟨_,rfl,h1,rfl⟩,?_⟩;(try refine ev1 hz ?_);apply z;clear z K)
  exact aR
theorem ok_open16 (c:TCtx)(hc:c.Sm)(x:Ty):CallOK prog 144 [tcV c,tyV x] (boolV (openT c x)):=by
 have h1:=ok_RefFind c.env x hc.el
 have h2:=ok_RefInstance c.p x 2
 unfold openT
 generalize findV c.env x=z at *
 generalize instB c.p x 2=b at *
 by_cases hz:0≤z
 ·rw [decide_eq_true hz,Bool.true_or]
  refine cB func144 ?_
  refine sR [0,1,2,3,4] ?_
  (refine sQ [0,1,2,3,4] fun K z=>?_;refine ev2 (fun a b=>@ge_iff_le Int _ a b) hz ?_;refine⟨_,.inl ⟨_,rfl,h1,rfl⟩,?_⟩;(try refine ev2 (fun a b=>@ge_iff_le Int _ a b) hz ?_);apply z;clear z K)
  exact aR
 ·rw [decide_eq_false hz,Bool.false_or]
  refine cB func144 ?_
  refine sR [0,1,2,3,4] ?_
  (refine sQ [0,1,2,3,4] fun K z=>?_;refine ev2 (fun a b=>@ge_iff_le Int _ a b) hz ?_;refine⟨_,.inl ⟨_,rfl,h1,rfl⟩,?_⟩;(try refine ev2 (fun a b=>@ge_iff_le Int _ a b) hz ?_);refine⟨_,.inl ⟨_,rfl,h2,rfl⟩,?_⟩;(try refine ev2 (fun a b=>@ge_iff_le Int _ a b) hz ?_);apply z;clear z K)
  exact aR
abbrev q2Ox:List Nat:=[0,1,2,3,4,5,6,7,8,27]
theorem ok_Fits16 (c:TCtx)(hc:c.Sm)(e:Ex)(hT:CallOK prog 73 [tcV c,exV e] (trV (typeE c e)))(hx:(typeE c e).1.Sm)(w:Ty)(hw:w.Sm):CallOK prog 136 [tcV c,exV e,tyV w] (rsV (fitsT c w e (typeE c e))):=by
 have hi:=ok_RImplements c.p hc.p c.env hc.el hc.env (typeE c e).1 w hx hw
 unfold fitsT
 generalize typeE c e=z at *
 obtain⟨x,⟨q,b,l⟩⟩:=z
 simp only at hi hx ⊢
 cases b with
 | true =>
  rw [if_neg (by simp)]
  refine cB func136 ?_
  refine sR q2Ox ?_
  refine sC hT q2Ox ?_
  refine kR q2Ox fun K1 u1=>?_
  refine kI u1 ?_
  refine sR q2Ox ?_
  exact aR
 | false =>
  generalize implB c.p c.env x w=b at *
  cases b with
  | true =>
   rw [if_neg (by simp)]
   refine cB func136 ?_
   refine sR q2Ox ?_
   refine sC hT q2Ox ?_
   refine kC hi q2Ox fun K1 u1=>?_
   refine kI u1 ?_
   refine sR q2Ox ?_
   exact aR
  | false =>
   rw [if_pos ⟨rfl,rfl⟩]
   refine cB func136 ?_
   refine sR q2Ox ?_
   refine sC hT q2Ox ?_
   refine kC hi q2Ox fun K1 u1=>?_
   refine tI ?_
   refine sR q2Ox ?_
   exact aR
abbrev q3Ox:List Nat:=[0,1,2,3,4,5,10,11,12,16,34]
theorem ok_kids16 (c:TCtx)(l:List Ex)(hll:l.length≤sm)(params:List Param)(hpl:params.length=l.length)(hps:∀ f,f∈params→f.Sm)(names:List Str)(args:List Ty)(ha:∀ u,u∈args→u.Sm)
  (hF:∀ k,k∈l→∀ w:Ty,w.Sm→CallOK prog 136 [tcV c,exV k,tyV w] (rsV (fitsT c w k (typeE c k)))) :
  CallOK prog 141 [tcV c,.d (.slice (exR l)),.d (.slice (paR params)),strsV names,tysV args] (rsV (kidsT c (params.map fun f=>f.type.subst names args) l (l.map (typeE c)))):=by
 generalize hR:kidsT c (params.map fun f=>f.type.subst names args) l (l.map (typeE c))=R
 refine cB func141 ?_
 refine sR q3Ox ?_
 (refine AWp.freeze 5 rfl rfl (wk [(1,.d (.slice (exR l))),(2,.d (.slice (paR params))),(3,strsV names),(4,tysV args),(5,.dptr (tcC c) 0),(10,.box 10 0)] [(10,rs0)] ?_))
 refine kR q3Ox fun K1 u1=>?_
 refine AWp.block (AWp.forIdx l (X:=Unit) (fun j _=>[(1,.d (.slice (exR l))),(2,.d (.slice (paR params))),(3,strsV names),(4,tysV args),(5,.dptr (tcC c) 0),(10,.box 10 0),(11,intV j)]) (fun _ _=>[(10,rs0)])
  (fun j _=>kidsT c ((params.drop j).map fun f=>f.type.subst names args) (l.drop j) ((l.drop j).map (typeE c))=R) () hR (by simp [sle,vle,sget,tcC]) (by simp [ble,bget,exC,tyC,foC,paC,siC,deC,prC]) ?_ ?_)
 rotate_left
 ·intro j _ k hk hmem dp tk hlt hI
  have hj:j < params.length:=by omega
  have hp:params[j]? = some params[j]:=List.getElem?_eq_getElem hj
  have hpm:=List.getElem_mem hj
  have hpd:params.drop j=params[j]::params.drop (j+1):=List.drop_eq_getElem_cons hj
  generalize params[j]=f at *
  rw [dp,hpd,List.map_cons,List.map_cons,kidsT] at hI
  have hs:=ok_RSubst names args ha f.type (hps f hpm).type
  have hf:=hF k hmem (f.type.subst names args) ((hps f hpm).type.subst ha)
  generalize fitsT c (f.type.subst names args) k (typeE c k)=r at *
  refine kR1 hlt q3Ox fun K2 u2=>?_
  refine gI u2 ?_
  clear u2 K2
  refine sK fun K2 u2=>?_
  refine AWp.block ?_
  (refine sG q3Ox [] 15 [⟨[],[],[12],[12]⟩,⟨[],[],[12],[12]⟩,⟨[],[],[12],[12]⟩,⟨[],[],[12],[12]⟩,⟨[],[],[12],[12]⟩,⟨[],[],[12],[12]⟩,⟨[],[],[12],[12]⟩,⟨[],[],[12],[12]⟩,⟨[],[],[12],[12]⟩,⟨[],[],[12],[12]⟩,⟨[],[],[12],[12]⟩,⟨[],[],[12],[12]⟩,⟨[],[],[12],[12]⟩,⟨[],[],[12],[12]⟩,⟨[12],[12],[],[]⟩] fun K z=>?_;simp -implicitDefEqProofs only [EV,forall_const,implies_true,Nat.reduceAdd,Nat.reduceEqDiff,Nat.reduceBEq,Nat.reduceLeDiff,Nat.reduceSub,Nat.reduceMul,Int.reduceEq,Int.reduceLT,Int.reduceLE,Int.reduceSub,Int.reduceAdd,Int.reduceToNat,reduceCtorEq,Int.reduceNeg,TF3,TF4,TF9,TF25,TF26,TF28,TF50,TF75,TF96,TF124,tcC];refine⟨by omega,_,exR_get hk,rfl,?_⟩;(try simp -implicitDefEqProofs only [EV,forall_const,implies_true,Nat.reduceAdd,Nat.reduceEqDiff,Nat.reduceBEq,Nat.reduceLeDiff,Nat.reduceSub,Nat.reduceMul,Int.reduceEq,Int.reduceLT,Int.reduceLE,Int.reduceSub,Int.reduceAdd,Int.reduceToNat,reduceCtorEq,Int.reduceNeg,TF3,TF4,TF9,TF25,TF26,TF28,TF50,TF75,TF96,TF124,tcC]);refine⟨by omega,_,paR_get hp,rfl,?_⟩;(try simp -implicitDefEqProofs only [EV,forall_const,implies_true,Nat.reduceAdd,Nat.reduceEqDiff,Nat.reduceBEq,Nat.reduceLeDiff,Nat.reduceSub,Nat.reduceMul,Int.reduceEq,Int.reduceLT,Int.reduceLE,Int.reduceSub,Int.reduceAdd,Int.reduceToNat,reduceCtorEq,Int.reduceNeg,TF3,TF4,TF9,TF25,TF26,TF28,TF50,TF75,TF96,TF124,tcC]);refine⟨_,.inl ⟨_,rfl,hs,rfl⟩,?_⟩;(try simp -implicitDefEqProofs only [EV,forall_const,implies_true,Nat.reduceAdd,Nat.reduceEqDiff,Nat.reduceBEq,Nat.reduceLeDiff,Nat.reduceSub,Nat.reduceMul,Int.reduceEq,Int.reduceLT,Int.reduceLE,Int.reduceSub,Int.reduceAdd,Int.reduceToNat,reduceCtorEq,Int.reduceNeg,TF3,TF4,TF9,TF25,TF26,TF28,TF50,TF75,TF96,TF124,tcC]);refine⟨_,.inl ⟨_,rfl,hf,rfl⟩,?_⟩;(try simp -implicitDefEqProofs only [EV,forall_const,implies_true,Nat.reduceAdd,Nat.reduceEqDiff,Nat.reduceBEq,Nat.reduceLeDiff,Nat.reduceSub,Nat.reduceMul,Int.reduceEq,Int.reduceLT,Int.reduceLE,Int.reduceSub,Int.reduceAdd,Int.reduceToNat,reduceCtorEq,Int.reduceNeg,TF3,TF4,TF9,TF25,TF26,TF28,TF50,TF75,TF96,TF124,tcC]);apply z;clear z K)
  refine sR q3Ox ?_
  refine AWp.cond rfl (fun hb=>?_) (fun hb=>?_)
  ·rw [if_pos hb] at hI
   refine sR q3Ox ?_
   rw [← hI]
   exact aR
  ·rw [if_neg (by rw [hb];simp)] at hI
   refine AWp.skip (u2 _ _ ?_)
   clear u2 K2
   (refine lV q3Ox fun K z=>?_;refine cl ?_;apply z;clear z K;try simp only [thenA,blockA,if_true])
   exact⟨(),hI,(by simp [sle,vle,sget,tcC]),(by simp [ble,bget,exC,tyC,foC,paC,siC,deC,prC])⟩
 intro _ hI
 rw [List.drop_length] at hI
 have hR0:R=res0:=by
  rw [← hI]
  cases (params.drop l.length).map fun f=>f.type.subst names args <;> rfl
 subst hR0
 refine kR1 Int.lt_irrefl q3Ox fun K2 u2=>?_
 refine AWp.stopK rfl ?_
 simp only [thenA,blockA,if_true]
 refine u1 _ _ ?_
 refine sR q3Ox ?_
 exact aR
set_option maxHeartbeats 4000000
theorem sigT_at {c:TCtx} {e:Ex} {x:Ty} {j:Nat} {s:Sig} (h1:nameI (setT c.p c.env x) e.name=j)(h2:(setT c.p c.env x)[j]? = some s):sigT c e x=if s.formals.length≠e.targs.length then .inl e.pos else
  match chkL c.p c.env e.targs with
  | some q=>.inl q
  | none=>if 0≤boundsI c.p c.env s.formals e.targs then .inl ((e.targs[(boundsI c.p c.env s.formals e.targs).toNat]?).getD default).pos else
   if e.kids.length≠s.params.length+1 then .inl e.pos else .inr s:=by
 unfold sigT
 rw [h1,Int.toNat_natCast,h2]
 simp only
 by_cases hf:s.formals.length≠e.targs.length
 ·rw [if_pos (.inr hf),if_pos hf]
 ·rw [if_neg (by rintro (h | h);omega;exact hf h),if_neg hf] <;> rfl
abbrev q1Px:List Nat:=[0,1,2,3,4,5,6,7,8,9,10,11,12,13,14,15,16,40,54,70,85,102]
theorem ok_call16 (c:TCtx)(hc:c.Sm)(e:Ex)(he:e.Sm)(x:Ty)(hx:x.Sm)(hk1:1≤e.kids.length)
  (hF:∀ k,k∈e.kids.tail→∀ w:Ty,w.Sm→CallOK prog 136 [tcV c,exV k,tyV w] (rsV (fitsT c w k (typeE c k)))) :
  CallOK prog 142 [tcV c,exV e,tyV x] (trV (callT c e x (e.kids.tail.map (typeE c)))):=by
 have hset:=ok_RSet c.p hc.p c.env hc.el hc.env x hx
 have hsl:=setT_len hc.p c.env x
 have hss:=setT_Sm hc.p hc.env hx
 have hfind:=ok_RefFind12 (setT c.p c.env x) e.name hsl
 have hnoE:=ok_no16 e.pos
 have htl:=he.targs.1
 have hat:=@sigT_at c e x
 generalize hR:callT c e x (e.kids.tail.map (typeE c))=R
 unfold callT at hR
 have hno:sigT c e x=.inl e.pos→R=noT e.pos:=fun h=>by rw [← hR,h]
 have hneg:nameI (setT c.p c.env x) e.name = -1→sigT c e x=.inl e.pos:=fun h=>by
  unfold sigT
  rw [h]
  split
  ·rfl
  ·rw [if_pos (.inl (by decide))]
 have hidx:=idxF_cases (fun s:Sig=>decide (s.name=e.name)) (setT c.p c.env x)
 unfold nameI at hat hneg
 generalize setT c.p c.env x=l at *
 refine cB func142 ?_
 refine sR q1Px ?_
 (refine AWp.freeze 3 rfl rfl ?_;refine AWp.freeze 4 rfl rfl ?_;refine AWp.freeze 5 rfl rfl (wk [(3,.dptr (tcC c) 0),(4,.dptr (exC e) 0),(5,.dptr (tyC x) 0),(6,.box 6 0),(7,.box 7 0)] [(6,ty0C),(7,rs0)] ?_))
 (refine sQ q1Px fun K z=>?_;simp -implicitDefEqProofs only [EV,forall_const,implies_true,Nat.reduceAdd,Nat.reduceEqDiff,Nat.reduceBEq,Nat.reduceLeDiff,Nat.reduceSub,Nat.reduceMul,Int.reduceEq,Int.reduceLT,Int.reduceLE,Int.reduceSub,Int.reduceAdd,Int.reduceToNat,reduceCtorEq,Int.reduceNeg,TF3,TF4,TF9,TF23,TF25,TF26,TF28,TF30,TF49,TF50,TF52,TF58,TF75,TF96,TF124,TF147,tcC];refine⟨_,.inl ⟨_,rfl,hset,rfl⟩,?_⟩;(try simp -implicitDefEqProofs only [EV,forall_const,implies_true,Nat.reduceAdd,Nat.reduceEqDiff,Nat.reduceBEq,Nat.reduceLeDiff,Nat.reduceSub,Nat.reduceMul,Int.reduceEq,Int.reduceLT,Int.reduceLE,Int.reduceSub,Int.reduceAdd,Int.reduceToNat,reduceCtorEq,Int.reduceNeg,TF3,TF4,TF9,TF23,TF25,TF26,TF28,TF30,TF49,TF50,TF52,TF58,TF75,TF96,TF124,TF147,tcC]);apply z;clear z K)
 (refine sQ q1Px fun K z=>?_;simp -implicitDefEqProofs only [EV,forall_const,implies_true,Nat.reduceAdd,Nat.reduceEqDiff,Nat.reduceBEq,Nat.reduceLeDiff,Nat.reduceSub,Nat.reduceMul,Int.reduceEq,Int.reduceLT,Int.reduceLE,Int.reduceSub,Int.reduceAdd,Int.reduceToNat,reduceCtorEq,Int.reduceNeg,TF3,TF4,TF9,TF23,TF25,TF26,TF28,TF30,TF49,TF50,TF52,TF58,TF75,TF96,TF124,TF147,tcC];refine⟨_,.inl ⟨_,rfl,hfind,rfl⟩,?_⟩;(try simp -implicitDefEqProofs only [EV,forall_const,implies_true,Nat.reduceAdd,Nat.reduceEqDiff,Nat.reduceBEq,Nat.reduceLeDiff,Nat.reduceSub,Nat.reduceMul,Int.reduceEq,Int.reduceLT,Int.reduceLE,Int.reduceSub,Int.reduceAdd,Int.reduceToNat,reduceCtorEq,Int.reduceNeg,TF3,TF4,TF9,TF23,TF25,TF26,TF28,TF30,TF49,TF50,TF52,TF58,TF75,TF96,TF124,TF147,tcC]);apply z;clear z K)
 rcases hidx with ⟨h1,_⟩ | ⟨j,s,h1,h2,_⟩
 ·rw [h1]
  obtain rfl:=hno (hneg h1)
  refine sK fun K1 u1=>?_
  (refine sG q1Px [] 12 [] fun K z=>?_;simp -implicitDefEqProofs only [EV,forall_const,implies_true,Nat.reduceAdd,Nat.reduceEqDiff,Nat.reduceBEq,Nat.reduceLeDiff,Nat.reduceSub,Nat.reduceMul,Int.reduceEq,Int.reduceLT,Int.reduceLE,Int.reduceSub,Int.reduceAdd,Int.reduceToNat,reduceCtorEq,Int.reduceNeg,TF3,TF4,TF9,TF23,TF25,TF26,TF28,TF30,TF49,TF50,TF52,TF58,TF75,TF96,TF124,TF147,tcC];apply z;clear z K)
  refine tI ?_
  (refine sQ q1Px fun K z=>?_;simp -implicitDefEqProofs only [EV,forall_const,implies_true,Nat.reduceAdd,Nat.reduceEqDiff,Nat.reduceBEq,Nat.reduceLeDiff,Nat.reduceSub,Nat.reduceMul,Int.reduceEq,Int.reduceLT,Int.reduceLE,Int.reduceSub,Int.reduceAdd,Int.reduceToNat,reduceCtorEq,Int.reduceNeg,TF3,TF4,TF9,TF23,TF25,TF26,TF28,TF30,TF49,TF50,TF52,TF58,TF75,TF96,TF124,TF147,tcC];refine⟨_,.inl ⟨_,rfl,hnoE,rfl⟩,?_⟩;(try simp -implicitDefEqProofs only [EV,forall_const,implies_true,Nat.reduceAdd,Nat.reduceEqDiff,Nat.reduceBEq,Nat.reduceLeDiff,Nat.reduceSub,Nat.reduceMul,Int.reduceEq,Int.reduceLT,Int.reduceLE,Int.reduceSub,Int.reduceAdd,Int.reduceToNat,reduceCtorEq,Int.reduceNeg,TF3,TF4,TF9,TF23,TF25,TF26,TF28,TF30,TF49,TF50,TF52,TF58,TF75,TF96,TF124,TF147,tcC]);apply z;clear z K)
  exact aR
 have hsig:=hat h1 h2
 have hs:=hss s (List.mem_of_getElem? h2)
 rw [h1]
 have hj0:¬ (j:Int) < 0:=by omega
 by_cases hfl:s.formals.length=e.targs.length
 rotate_left
 ·rw [if_pos hfl] at hsig
  obtain rfl:=hno hsig
  have hfl':¬ (s.formals.length:Int)=(e.targs.length:Int):=by omega
  refine sK fun K1 u1=>?_
  (refine sG q1Px [] 12 [] fun K z=>?_;simp -implicitDefEqProofs only [EV,forall_const,implies_true,Nat.reduceAdd,Nat.reduceEqDiff,Nat.reduceBEq,Nat.reduceLeDiff,Nat.reduceSub,Nat.reduceMul,Int.reduceEq,Int.reduceLT,Int.reduceLE,Int.reduceSub,Int.reduceAdd,Int.reduceToNat,reduceCtorEq,Int.reduceNeg,TF3,TF4,TF9,TF23,TF25,TF26,TF28,TF30,TF49,TF50,TF52,TF58,TF75,TF96,TF124,TF147,tcC,hj0,hfl',TF49,TF23];refine⟨by omega,_,siR_get h2,rfl,?_⟩;(try simp -implicitDefEqProofs only [EV,forall_const,implies_true,Nat.reduceAdd,Nat.reduceEqDiff,Nat.reduceBEq,Nat.reduceLeDiff,Nat.reduceSub,Nat.reduceMul,Int.reduceEq,Int.reduceLT,Int.reduceLE,Int.reduceSub,Int.reduceAdd,Int.reduceToNat,reduceCtorEq,Int.reduceNeg,TF3,TF4,TF9,TF23,TF25,TF26,TF28,TF30,TF49,TF50,TF52,TF58,TF75,TF96,TF124,TF147,tcC,hj0,hfl',TF49,TF23]);apply z;clear z K)
  refine tI ?_
  (refine sQ q1Px fun K z=>?_;simp -implicitDefEqProofs only [EV,forall_const,implies_true,Nat.reduceAdd,Nat.reduceEqDiff,Nat.reduceBEq,Nat.reduceLeDiff,Nat.reduceSub,Nat.reduceMul,Int.reduceEq,Int.reduceLT,Int.reduceLE,Int.reduceSub,Int.reduceAdd,Int.reduceToNat,reduceCtorEq,Int.reduceNeg,TF3,TF4,TF9,TF23,TF25,TF26,TF28,TF30,TF49,TF50,TF52,TF58,TF75,TF96,TF124,TF147,tcC];refine⟨_,.inl ⟨_,rfl,hnoE,rfl⟩,?_⟩;(try simp -implicitDefEqProofs only [EV,forall_const,implies_true,Nat.reduceAdd,Nat.reduceEqDiff,Nat.reduceBEq,Nat.reduceLeDiff,Nat.reduceSub,Nat.reduceMul,Int.reduceEq,Int.reduceLT,Int.reduceLE,Int.reduceSub,Int.reduceAdd,Int.reduceToNat,reduceCtorEq,Int.reduceNeg,TF3,TF4,TF9,TF23,TF25,TF26,TF28,TF30,TF49,TF50,TF52,TF58,TF75,TF96,TF124,TF147,tcC]);apply z;clear z K)
  exact aR
 rw [if_neg fun hh=>hh hfl] at hsig
 have hfl':(s.formals.length:Int)=(e.targs.length:Int):=by omega
 have hbo:=ok_RBounds c.p hc.p c.env hc.el hc.env s.formals hs.formals.1 hs.formals.2 e.targs hfl.symm he.targs.2
 have hbg:=@bounds_get c.p c.env s.formals e.targs
 refine sK fun K1 u1=>?_
 (refine sG q1Px [] 12 [] fun K z=>?_;simp -implicitDefEqProofs only [EV,forall_const,implies_true,Nat.reduceAdd,Nat.reduceEqDiff,Nat.reduceBEq,Nat.reduceLeDiff,Nat.reduceSub,Nat.reduceMul,Int.reduceEq,Int.reduceLT,Int.reduceLE,Int.reduceSub,Int.reduceAdd,Int.reduceToNat,reduceCtorEq,Int.reduceNeg,TF3,TF4,TF9,TF23,TF25,TF26,TF28,TF30,TF49,TF50,TF52,TF58,TF75,TF96,TF124,TF147,tcC,hj0,hfl',TF49,TF23];refine⟨by omega,_,siR_get h2,rfl,?_⟩;(try simp -implicitDefEqProofs only [EV,forall_const,implies_true,Nat.reduceAdd,Nat.reduceEqDiff,Nat.reduceBEq,Nat.reduceLeDiff,Nat.reduceSub,Nat.reduceMul,Int.reduceEq,Int.reduceLT,Int.reduceLE,Int.reduceSub,Int.reduceAdd,Int.reduceToNat,reduceCtorEq,Int.reduceNeg,TF3,TF4,TF9,TF23,TF25,TF26,TF28,TF30,TF49,TF50,TF52,TF58,TF75,TF96,TF124,TF147,tcC,hj0,hfl',TF49,TF23]);apply z;clear z K)
 refine kI u1 ?_
 clear u1 K1
 (refine sQ q1Px fun K z=>?_;simp -implicitDefEqProofs only [EV,forall_const,implies_true,Nat.reduceAdd,Nat.reduceEqDiff,Nat.reduceBEq,Nat.reduceLeDiff,Nat.reduceSub,Nat.reduceMul,Int.reduceEq,Int.reduceLT,Int.reduceLE,Int.reduceSub,Int.reduceAdd,Int.reduceToNat,reduceCtorEq,Int.reduceNeg,TF3,TF4,TF9,TF23,TF25,TF26,TF28,TF30,TF49,TF50,TF52,TF58,TF75,TF96,TF124,TF147,tcC];refine⟨by omega,_,siR_get h2,rfl,?_⟩;(try simp -implicitDefEqProofs only [EV,forall_const,implies_true,Nat.reduceAdd,Nat.reduceEqDiff,Nat.reduceBEq,Nat.reduceLeDiff,Nat.reduceSub,Nat.reduceMul,Int.reduceEq,Int.reduceLT,Int.reduceLE,Int.reduceSub,Int.reduceAdd,Int.reduceToNat,reduceCtorEq,Int.reduceNeg,TF3,TF4,TF9,TF23,TF25,TF26,TF28,TF30,TF49,TF50,TF52,TF58,TF75,TF96,TF124,TF147,tcC]);apply z;clear z K)
 (refine AWp.freeze 10 rfl rfl (wk [(3,.dptr (tcC c) 0),(4,.dptr (exC e) 0),(6,.box 6 0),(7,.box 7 0),(10,.dptr (siC s) 0)] [(6,ty0C),(7,rs0)] ?_))
 refine sK fun K1 u1=>?_
 (refine sQ q1Px fun K z=>?_;simp -implicitDefEqProofs only [EV,forall_const,implies_true,Nat.reduceAdd,Nat.reduceEqDiff,Nat.reduceBEq,Nat.reduceLeDiff,Nat.reduceSub,Nat.reduceMul,Int.reduceEq,Int.reduceLT,Int.reduceLE,Int.reduceSub,Int.reduceAdd,Int.reduceToNat,reduceCtorEq,Int.reduceNeg,TF3,TF4,TF9,TF23,TF25,TF26,TF28,TF30,TF49,TF50,TF52,TF58,TF75,TF96,TF124,TF147,tcC];apply z;clear z K)
 refine AWp.block (AWp.forIdx e.targs (X:=Unit) (fun j _=>[(3,.dptr (tcC c) 0),(4,.dptr (exC e) 0),(6,.box 6 0),(7,.box 7 0),(10,.dptr (siC s) 0),(11,intV j)]) (fun _ _=>[(6,ty0C),(7,rs0)])
  (fun j _=>chkL c.p c.env (e.targs.drop j)=chkL c.p c.env e.targs) () (by simp) (by simp [sle,vle,sget,tcC,exC,siC]) (by simp [ble,bget,exC,tyC,foC,paC,siC,deC,prC]) ?_ ?_)
 rotate_left
 ·intro j _ d hd hmem dp tk hlt hI
  have hck:=ok_RCheck c.p hc.p c.env hc.el hc.env d (he.targs.2 d hmem)
  rw [dp,chkL] at hI
  refine sK fun K2 u2=>?_
  (refine sQ q1Px fun K z=>?_;simp -implicitDefEqProofs only [EV,forall_const,implies_true,Nat.reduceAdd,Nat.reduceEqDiff,Nat.reduceBEq,Nat.reduceLeDiff,Nat.reduceSub,Nat.reduceMul,Int.reduceEq,Int.reduceLT,Int.reduceLE,Int.reduceSub,Int.reduceAdd,Int.reduceToNat,reduceCtorEq,Int.reduceNeg,TF3,TF4,TF9,TF23,TF25,TF26,TF28,TF30,TF49,TF50,TF52,TF58,TF75,TF96,TF124,TF147,tcC,hlt];apply z;clear z K)
  refine gI u2 ?_
  clear u2 K2
  refine sK fun K2 u2=>?_
  refine AWp.block ?_
  cases ho:chk c.p c.env d with
  | none =>
   rw [ho] at hck hI
   simp only [chkV] at hck hI
   (refine sG q1Px [] 14 [] fun K z=>?_;simp -implicitDefEqProofs only [EV,forall_const,implies_true,Nat.reduceAdd,Nat.reduceEqDiff,Nat.reduceBEq,Nat.reduceLeDiff,Nat.reduceSub,Nat.reduceMul,Int.reduceEq,Int.reduceLT,Int.reduceLE,Int.reduceSub,Int.reduceAdd,Int.reduceToNat,reduceCtorEq,Int.reduceNeg,TF3,TF4,TF9,TF23,TF25,TF26,TF28,TF30,TF49,TF50,TF52,TF58,TF75,TF96,TF124,TF147,tcC];refine⟨by omega,_,tyR_get hd,rfl,?_⟩;(try simp -implicitDefEqProofs only [EV,forall_const,implies_true,Nat.reduceAdd,Nat.reduceEqDiff,Nat.reduceBEq,Nat.reduceLeDiff,Nat.reduceSub,Nat.reduceMul,Int.reduceEq,Int.reduceLT,Int.reduceLE,Int.reduceSub,Int.reduceAdd,Int.reduceToNat,reduceCtorEq,Int.reduceNeg,TF3,TF4,TF9,TF23,TF25,TF26,TF28,TF30,TF49,TF50,TF52,TF58,TF75,TF96,TF124,TF147,tcC]);refine⟨_,.inl ⟨_,rfl,hck,rfl⟩,?_⟩;(try simp -implicitDefEqProofs only [EV,forall_const,implies_true,Nat.reduceAdd,Nat.reduceEqDiff,Nat.reduceBEq,Nat.reduceLeDiff,Nat.reduceSub,Nat.reduceMul,Int.reduceEq,Int.reduceLT,Int.reduceLE,Int.reduceSub,Int.reduceAdd,Int.reduceToNat,reduceCtorEq,Int.reduceNeg,TF3,TF4,TF9,TF23,TF25,TF26,TF28,TF30,TF49,TF50,TF52,TF58,TF75,TF96,TF124,TF147,tcC]);apply z;clear z K)
   (refine sQ q1Px fun K z=>?_;simp -implicitDefEqProofs only [EV,forall_const,implies_true,Nat.reduceAdd,Nat.reduceEqDiff,Nat.reduceBEq,Nat.reduceLeDiff,Nat.reduceSub,Nat.reduceMul,Int.reduceEq,Int.reduceLT,Int.reduceLE,Int.reduceSub,Int.reduceAdd,Int.reduceToNat,reduceCtorEq,Int.reduceNeg,TF3,TF4,TF9,TF23,TF25,TF26,TF28,TF30,TF49,TF50,TF52,TF58,TF75,TF96,TF124,TF147,tcC];apply z;clear z K)
   refine AWp.condF rfl (AWp.skip (u2 _ _ ?_))
   clear u2 K2
   (refine lQ q1Px fun K z=>?_;simp -implicitDefEqProofs only [EV,forall_const,implies_true,Nat.reduceAdd,Nat.reduceEqDiff,Nat.reduceBEq,Nat.reduceLeDiff,Nat.reduceSub,Nat.reduceMul,Int.reduceEq,Int.reduceLT,Int.reduceLE,Int.reduceSub,Int.reduceAdd,Int.reduceToNat,reduceCtorEq,Int.reduceNeg,TF3,TF4,TF9,TF23,TF25,TF26,TF28,TF30,TF49,TF50,TF52,TF58,TF75,TF96,TF124,TF147,tcC];refine⟨by first | (unfold InR;omega) | (simp only [InR,sm,lim] at *;omega),?_⟩;(try simp -implicitDefEqProofs only [EV,forall_const,implies_true,Nat.reduceAdd,Nat.reduceEqDiff,Nat.reduceBEq,Nat.reduceLeDiff,Nat.reduceSub,Nat.reduceMul,Int.reduceEq,Int.reduceLT,Int.reduceLE,Int.reduceSub,Int.reduceAdd,Int.reduceToNat,reduceCtorEq,Int.reduceNeg,TF3,TF4,TF9,TF23,TF25,TF26,TF28,TF30,TF49,TF50,TF52,TF58,TF75,TF96,TF124,TF147,tcC]);apply z;clear z K;try simp only [thenA,blockA,if_true])
   exact⟨(),hI,(by simp [sle,vle,sget,tcC,exC,siC]),(by simp [ble,bget,exC,tyC,foC,paC,siC,deC,prC])⟩
  | some q =>
   rw [ho] at hck hI
   simp only [chkV] at hck hI
   rw [← hI] at hsig
   obtain rfl:R=noT q:=by rw [← hR,hsig]
   have hnoQ:=ok_no16 q
   (refine sG q1Px [] 14 [] fun K z=>?_;simp -implicitDefEqProofs only [EV,forall_const,implies_true,Nat.reduceAdd,Nat.reduceEqDiff,Nat.reduceBEq,Nat.reduceLeDiff,Nat.reduceSub,Nat.reduceMul,Int.reduceEq,Int.reduceLT,Int.reduceLE,Int.reduceSub,Int.reduceAdd,Int.reduceToNat,reduceCtorEq,Int.reduceNeg,TF3,TF4,TF9,TF23,TF25,TF26,TF28,TF30,TF49,TF50,TF52,TF58,TF75,TF96,TF124,TF147,tcC];refine⟨by omega,_,tyR_get hd,rfl,?_⟩;(try simp -implicitDefEqProofs only [EV,forall_const,implies_true,Nat.reduceAdd,Nat.reduceEqDiff,Nat.reduceBEq,Nat.reduceLeDiff,Nat.reduceSub,Nat.reduceMul,Int.reduceEq,Int.reduceLT,Int.reduceLE,Int.reduceSub,Int.reduceAdd,Int.reduceToNat,reduceCtorEq,Int.reduceNeg,TF3,TF4,TF9,TF23,TF25,TF26,TF28,TF30,TF49,TF50,TF52,TF58,TF75,TF96,TF124,TF147,tcC]);refine⟨_,.inl ⟨_,rfl,hck,rfl⟩,?_⟩;(try simp -implicitDefEqProofs only [EV,forall_const,implies_true,Nat.reduceAdd,Nat.reduceEqDiff,Nat.reduceBEq,Nat.reduceLeDiff,Nat.reduceSub,Nat.reduceMul,Int.reduceEq,Int.reduceLT,Int.reduceLE,Int.reduceSub,Int.reduceAdd,Int.reduceToNat,reduceCtorEq,Int.reduceNeg,TF3,TF4,TF9,TF23,TF25,TF26,TF28,TF30,TF49,TF50,TF52,TF58,TF75,TF96,TF124,TF147,tcC]);apply z;clear z K)
   (refine sQ q1Px fun K z=>?_;simp -implicitDefEqProofs only [EV,forall_const,implies_true,Nat.reduceAdd,Nat.reduceEqDiff,Nat.reduceBEq,Nat.reduceLeDiff,Nat.reduceSub,Nat.reduceMul,Int.reduceEq,Int.reduceLT,Int.reduceLE,Int.reduceSub,Int.reduceAdd,Int.reduceToNat,reduceCtorEq,Int.reduceNeg,TF3,TF4,TF9,TF23,TF25,TF26,TF28,TF30,TF49,TF50,TF52,TF58,TF75,TF96,TF124,TF147,tcC];apply z;clear z K)
   refine AWp.condT rfl ?_
   (refine sQ q1Px fun K z=>?_;simp -implicitDefEqProofs only [EV,forall_const,implies_true,Nat.reduceAdd,Nat.reduceEqDiff,Nat.reduceBEq,Nat.reduceLeDiff,Nat.reduceSub,Nat.reduceMul,Int.reduceEq,Int.reduceLT,Int.reduceLE,Int.reduceSub,Int.reduceAdd,Int.reduceToNat,reduceCtorEq,Int.reduceNeg,TF3,TF4,TF9,TF23,TF25,TF26,TF28,TF30,TF49,TF50,TF52,TF58,TF75,TF96,TF124,TF147,tcC];refine⟨_,.inl ⟨_,rfl,hnoQ,rfl⟩,?_⟩;(try simp -implicitDefEqProofs only [EV,forall_const,implies_true,Nat.reduceAdd,Nat.reduceEqDiff,Nat.reduceBEq,Nat.reduceLeDiff,Nat.reduceSub,Nat.reduceMul,Int.reduceEq,Int.reduceLT,Int.reduceLE,Int.reduceSub,Int.reduceAdd,Int.reduceToNat,reduceCtorEq,Int.reduceNeg,TF3,TF4,TF9,TF23,TF25,TF26,TF28,TF30,TF49,TF50,TF52,TF58,TF75,TF96,TF124,TF147,tcC]);apply z;clear z K)
   exact aR
 intro _ hI
 rw [List.drop_length,chkL] at hI
 rw [← hI] at hsig
 simp only at hsig
 clear hI
 refine sK fun K2 u2=>?_
 (refine sQ q1Px fun K z=>?_;simp -implicitDefEqProofs only [EV,forall_const,implies_true,Nat.reduceAdd,Nat.reduceEqDiff,Nat.reduceBEq,Nat.reduceLeDiff,Nat.reduceSub,Nat.reduceMul,Int.reduceEq,Int.reduceLT,Int.reduceLE,Int.reduceSub,Int.reduceAdd,Int.reduceToNat,reduceCtorEq,Int.reduceNeg,TF3,TF4,TF9,TF23,TF25,TF26,TF28,TF30,TF49,TF50,TF52,TF58,TF75,TF96,TF124,TF147,tcC,Int.lt_irrefl];apply z;clear z K)
 refine AWp.stopK rfl ?_
 simp only [thenA,blockA,if_true]
 refine u1 _ _ ?_
 clear u2 K2 u1 K1
 (refine sQ q1Px fun K z=>?_;simp -implicitDefEqProofs only [EV,forall_const,implies_true,Nat.reduceAdd,Nat.reduceEqDiff,Nat.reduceBEq,Nat.reduceLeDiff,Nat.reduceSub,Nat.reduceMul,Int.reduceEq,Int.reduceLT,Int.reduceLE,Int.reduceSub,Int.reduceAdd,Int.reduceToNat,reduceCtorEq,Int.reduceNeg,TF3,TF4,TF9,TF23,TF25,TF26,TF28,TF30,TF49,TF50,TF52,TF58,TF75,TF96,TF124,TF147,tcC];refine⟨_,.inl ⟨_,rfl,hbo,rfl⟩,?_⟩;(try simp -implicitDefEqProofs only [EV,forall_const,implies_true,Nat.reduceAdd,Nat.reduceEqDiff,Nat.reduceBEq,Nat.reduceLeDiff,Nat.reduceSub,Nat.reduceMul,Int.reduceEq,Int.reduceLT,Int.reduceLE,Int.reduceSub,Int.reduceAdd,Int.reduceToNat,reduceCtorEq,Int.reduceNeg,TF3,TF4,TF9,TF23,TF25,TF26,TF28,TF30,TF49,TF50,TF52,TF58,TF75,TF96,TF124,TF147,tcC]);apply z;clear z K)
 generalize boundsI c.p c.env s.formals e.targs=b at *
 by_cases hb0:0≤b
 ·obtain⟨u,hu⟩:=hbg hb0 hfl.symm
  rw [if_pos hb0,hu,Option.getD_some] at hsig
  obtain rfl:R=noT u.pos:=by rw [← hR,hsig]
  have hnoQ:=ok_no16 u.pos
  refine sK fun K1 u1=>?_
  (refine sQ q1Px fun K z=>?_;simp -implicitDefEqProofs only [EV,forall_const,implies_true,Nat.reduceAdd,Nat.reduceEqDiff,Nat.reduceBEq,Nat.reduceLeDiff,Nat.reduceSub,Nat.reduceMul,Int.reduceEq,Int.reduceLT,Int.reduceLE,Int.reduceSub,Int.reduceAdd,Int.reduceToNat,reduceCtorEq,Int.reduceNeg,TF3,TF4,TF9,TF23,TF25,TF26,TF28,TF30,TF49,TF50,TF52,TF58,TF75,TF96,TF124,TF147,tcC,ge_iff_le,hb0];apply z;clear z K)
  refine tI ?_
  (refine sQ q1Px fun K z=>?_;simp -implicitDefEqProofs only [EV,forall_const,implies_true,Nat.reduceAdd,Nat.reduceEqDiff,Nat.reduceBEq,Nat.reduceLeDiff,Nat.reduceSub,Nat.reduceMul,Int.reduceEq,Int.reduceLT,Int.reduceLE,Int.reduceSub,Int.reduceAdd,Int.reduceToNat,reduceCtorEq,Int.reduceNeg,TF3,TF4,TF9,TF23,TF25,TF26,TF28,TF30,TF49,TF50,TF52,TF58,TF75,TF96,TF124,TF147,tcC];refine⟨by omega,_,tyR_get hu,rfl,?_⟩;(try simp -implicitDefEqProofs only [EV,forall_const,implies_true,Nat.reduceAdd,Nat.reduceEqDiff,Nat.reduceBEq,Nat.reduceLeDiff,Nat.reduceSub,Nat.reduceMul,Int.reduceEq,Int.reduceLT,Int.reduceLE,Int.reduceSub,Int.reduceAdd,Int.reduceToNat,reduceCtorEq,Int.reduceNeg,TF3,TF4,TF9,TF23,TF25,TF26,TF28,TF30,TF49,TF50,TF52,TF58,TF75,TF96,TF124,TF147,tcC]);refine⟨_,.inl ⟨_,rfl,hnoQ,rfl⟩,?_⟩;(try simp -implicitDefEqProofs only [EV,forall_const,implies_true,Nat.reduceAdd,Nat.reduceEqDiff,Nat.reduceBEq,Nat.reduceLeDiff,Nat.reduceSub,Nat.reduceMul,Int.reduceEq,Int.reduceLT,Int.reduceLE,Int.reduceSub,Int.reduceAdd,Int.reduceToNat,reduceCtorEq,Int.reduceNeg,TF3,TF4,TF9,TF23,TF25,TF26,TF28,TF30,TF49,TF50,TF52,TF58,TF75,TF96,TF124,TF147,tcC]);apply z;clear z K)
  exact aR
 rw [if_neg hb0] at hsig
 refine sK fun K1 u1=>?_
 (refine sQ q1Px fun K z=>?_;simp -implicitDefEqProofs only [EV,forall_const,implies_true,Nat.reduceAdd,Nat.reduceEqDiff,Nat.reduceBEq,Nat.reduceLeDiff,Nat.reduceSub,Nat.reduceMul,Int.reduceEq,Int.reduceLT,Int.reduceLE,Int.reduceSub,Int.reduceAdd,Int.reduceToNat,reduceCtorEq,Int.reduceNeg,TF3,TF4,TF9,TF23,TF25,TF26,TF28,TF30,TF49,TF50,TF52,TF58,TF75,TF96,TF124,TF147,tcC,ge_iff_le,hb0];apply z;clear z K)
 refine kI u1 ?_
 clear u1 K1
 have hpl:=hs.params.1
 by_cases hkl:e.kids.length=s.params.length+1
 rotate_left
 ·rw [if_pos hkl] at hsig
  obtain rfl:=hno hsig
  have hkl':¬ (e.kids.length:Int)=(s.params.length:Int)+1:=by omega
  refine sK fun K1 u1=>?_
  (refine sQ q1Px fun K z=>?_;simp -implicitDefEqProofs only [EV,forall_const,implies_true,Nat.reduceAdd,Nat.reduceEqDiff,Nat.reduceBEq,Nat.reduceLeDiff,Nat.reduceSub,Nat.reduceMul,Int.reduceEq,Int.reduceLT,Int.reduceLE,Int.reduceSub,Int.reduceAdd,Int.reduceToNat,reduceCtorEq,Int.reduceNeg,TF3,TF4,TF9,TF23,TF25,TF26,TF28,TF30,TF49,TF50,TF52,TF58,TF75,TF96,TF124,TF147,tcC,hkl'];refine⟨by first | (unfold InR;omega) | (simp only [InR,sm,lim] at *;omega),?_⟩;(try simp -implicitDefEqProofs only [EV,forall_const,implies_true,Nat.reduceAdd,Nat.reduceEqDiff,Nat.reduceBEq,Nat.reduceLeDiff,Nat.reduceSub,Nat.reduceMul,Int.reduceEq,Int.reduceLT,Int.reduceLE,Int.reduceSub,Int.reduceAdd,Int.reduceToNat,reduceCtorEq,Int.reduceNeg,TF3,TF4,TF9,TF23,TF25,TF26,TF28,TF30,TF49,TF50,TF52,TF58,TF75,TF96,TF124,TF147,tcC,hkl']);apply z;clear z K)
  refine tI ?_
  (refine sQ q1Px fun K z=>?_;simp -implicitDefEqProofs only [EV,forall_const,implies_true,Nat.reduceAdd,Nat.reduceEqDiff,Nat.reduceBEq,Nat.reduceLeDiff,Nat.reduceSub,Nat.reduceMul,Int.reduceEq,Int.reduceLT,Int.reduceLE,Int.reduceSub,Int.reduceAdd,Int.reduceToNat,reduceCtorEq,Int.reduceNeg,TF3,TF4,TF9,TF23,TF25,TF26,TF28,TF30,TF49,TF50,TF52,TF58,TF75,TF96,TF124,TF147,tcC];refine⟨_,.inl ⟨_,rfl,hnoE,rfl⟩,?_⟩;(try simp -implicitDefEqProofs only [EV,forall_const,implies_true,Nat.reduceAdd,Nat.reduceEqDiff,Nat.reduceBEq,Nat.reduceLeDiff,Nat.reduceSub,Nat.reduceMul,Int.reduceEq,Int.reduceLT,Int.reduceLE,Int.reduceSub,Int.reduceAdd,Int.reduceToNat,reduceCtorEq,Int.reduceNeg,TF3,TF4,TF9,TF23,TF25,TF26,TF28,TF30,TF49,TF50,TF52,TF58,TF75,TF96,TF124,TF147,tcC]);apply z;clear z K)
  exact aR
 rw [if_neg fun hh=>hh hkl] at hsig
 have hkl':(e.kids.length:Int)=(s.params.length:Int)+1:=by omega
 refine sK fun K1 u1=>?_
 (refine sQ q1Px fun K z=>?_;simp -implicitDefEqProofs only [EV,forall_const,implies_true,Nat.reduceAdd,Nat.reduceEqDiff,Nat.reduceBEq,Nat.reduceLeDiff,Nat.reduceSub,Nat.reduceMul,Int.reduceEq,Int.reduceLT,Int.reduceLE,Int.reduceSub,Int.reduceAdd,Int.reduceToNat,reduceCtorEq,Int.reduceNeg,TF3,TF4,TF9,TF23,TF25,TF26,TF28,TF30,TF49,TF50,TF52,TF58,TF75,TF96,TF124,TF147,tcC,hkl'];refine⟨by first | (unfold InR;omega) | (simp only [InR,sm,lim] at *;omega),?_⟩;(try simp -implicitDefEqProofs only [EV,forall_const,implies_true,Nat.reduceAdd,Nat.reduceEqDiff,Nat.reduceBEq,Nat.reduceLeDiff,Nat.reduceSub,Nat.reduceMul,Int.reduceEq,Int.reduceLT,Int.reduceLE,Int.reduceSub,Int.reduceAdd,Int.reduceToNat,reduceCtorEq,Int.reduceNeg,TF3,TF4,TF9,TF23,TF25,TF26,TF28,TF30,TF49,TF50,TF52,TF58,TF75,TF96,TF124,TF147,tcC,hkl']);apply z;clear z K)
 refine kI u1 ?_
 clear u1 K1
 have hnm:=ok_RefNames s.formals hs.formals.1
 have hki:=ok_kids16 c e.kids.tail (by rw [List.length_tail];omega) s.params (by rw [List.length_tail];omega) hs.params.2 (s.formals.map (·.name)) e.targs he.targs.2 hF
 have hsr:=ok_RSubst (s.formals.map (·.name)) e.targs he.targs.2 s.result hs.result
 rw [hsig] at hR
 simp only at hR
 have hfd:=ok_found16 (s.result.subst (s.formals.map (·.name)) e.targs) (kidsT c (s.params.map fun f=>f.type.subst (s.formals.map (·.name)) e.targs) e.kids.tail (e.kids.tail.map (typeE c)))
 have hR':R=foundT (s.result.subst (s.formals.map (·.name)) e.targs,kidsT c (s.params.map fun f=>f.type.subst (s.formals.map (·.name)) e.targs) e.kids.tail (e.kids.tail.map (typeE c))):=hR.symm
 rw [← hR'] at hfd
 have hex:exR e.kids.tail=((exR e.kids).take e.kids.length).drop 1:=by rw [List.take_of_length_le (by rw [exR_len];exact Nat.le_refl _),exR_map,exR_map,← List.map_drop,List.drop_one]
 rw [hex] at hki
 generalize kidsT c (s.params.map fun f=>f.type.subst (s.formals.map (·.name)) e.targs) e.kids.tail (e.kids.tail.map (typeE c))=r at *
 obtain⟨rt,rr⟩:=R
 (refine sQ q1Px fun K z=>?_;simp -implicitDefEqProofs only [EV,forall_const,implies_true,Nat.reduceAdd,Nat.reduceEqDiff,Nat.reduceBEq,Nat.reduceLeDiff,Nat.reduceSub,Nat.reduceMul,Int.reduceEq,Int.reduceLT,Int.reduceLE,Int.reduceSub,Int.reduceAdd,Int.reduceToNat,reduceCtorEq,Int.reduceNeg,TF3,TF4,TF9,TF23,TF25,TF26,TF28,TF30,TF49,TF50,TF52,TF58,TF75,TF96,TF124,TF147,tcC];refine⟨_,.inl ⟨_,rfl,hnm,rfl⟩,?_⟩;(try simp -implicitDefEqProofs only [EV,forall_const,implies_true,Nat.reduceAdd,Nat.reduceEqDiff,Nat.reduceBEq,Nat.reduceLeDiff,Nat.reduceSub,Nat.reduceMul,Int.reduceEq,Int.reduceLT,Int.reduceLE,Int.reduceSub,Int.reduceAdd,Int.reduceToNat,reduceCtorEq,Int.reduceNeg,TF3,TF4,TF9,TF23,TF25,TF26,TF28,TF30,TF49,TF50,TF52,TF58,TF75,TF96,TF124,TF147,tcC]);apply z;clear z K)
 (refine sG q1Px [] 11 [⟨[],[],[16],[16]⟩,⟨[],[],[16],[16]⟩,⟨[],[],[16],[16]⟩,⟨[],[],[16],[16]⟩,⟨[],[],[16],[16]⟩,⟨[],[],[16],[16]⟩,⟨[],[],[16],[16]⟩,⟨[],[],[16],[16]⟩,⟨[],[],[16],[16]⟩,⟨[],[],[16],[16]⟩,⟨[16],[16],[],[]⟩] fun K z=>?_;simp -implicitDefEqProofs only [EV,forall_const,implies_true,Nat.reduceAdd,Nat.reduceEqDiff,Nat.reduceBEq,Nat.reduceLeDiff,Nat.reduceSub,Nat.reduceMul,Int.reduceEq,Int.reduceLT,Int.reduceLE,Int.reduceSub,Int.reduceAdd,Int.reduceToNat,reduceCtorEq,Int.reduceNeg,TF3,TF4,TF9,TF23,TF25,TF26,TF28,TF30,TF49,TF50,TF52,TF58,TF75,TF96,TF124,TF147,tcC];refine⟨exR_row _,by omega,by omega,?_⟩;(try simp -implicitDefEqProofs only [EV,forall_const,implies_true,Nat.reduceAdd,Nat.reduceEqDiff,Nat.reduceBEq,Nat.reduceLeDiff,Nat.reduceSub,Nat.reduceMul,Int.reduceEq,Int.reduceLT,Int.reduceLE,Int.reduceSub,Int.reduceAdd,Int.reduceToNat,reduceCtorEq,Int.reduceNeg,TF3,TF4,TF9,TF23,TF25,TF26,TF28,TF30,TF49,TF50,TF52,TF58,TF75,TF96,TF124,TF147,tcC]);refine⟨_,.inl ⟨_,rfl,hki,rfl⟩,?_⟩;(try simp -implicitDefEqProofs only [EV,forall_const,implies_true,Nat.reduceAdd,Nat.reduceEqDiff,Nat.reduceBEq,Nat.reduceLeDiff,Nat.reduceSub,Nat.reduceMul,Int.reduceEq,Int.reduceLT,Int.reduceLE,Int.reduceSub,Int.reduceAdd,Int.reduceToNat,reduceCtorEq,Int.reduceNeg,TF3,TF4,TF9,TF23,TF25,TF26,TF28,TF30,TF49,TF50,TF52,TF58,TF75,TF96,TF124,TF147,tcC]);apply z;clear z K)
 (refine sG q1Px [] 10 [] fun K z=>?_;simp -implicitDefEqProofs only [EV,forall_const,implies_true,Nat.reduceAdd,Nat.reduceEqDiff,Nat.reduceBEq,Nat.reduceLeDiff,Nat.reduceSub,Nat.reduceMul,Int.reduceEq,Int.reduceLT,Int.reduceLE,Int.reduceSub,Int.reduceAdd,Int.reduceToNat,reduceCtorEq,Int.reduceNeg,TF3,TF4,TF9,TF23,TF25,TF26,TF28,TF30,TF49,TF50,TF52,TF58,TF75,TF96,TF124,TF147,tcC];refine⟨_,.inl ⟨_,rfl,hsr,rfl⟩,?_⟩;(try simp -implicitDefEqProofs only [EV,forall_const,implies_true,Nat.reduceAdd,Nat.reduceEqDiff,Nat.reduceBEq,Nat.reduceLeDiff,Nat.reduceSub,Nat.reduceMul,Int.reduceEq,Int.reduceLT,Int.reduceLE,Int.reduceSub,Int.reduceAdd,Int.reduceToNat,reduceCtorEq,Int.reduceNeg,TF3,TF4,TF9,TF23,TF25,TF26,TF28,TF30,TF49,TF50,TF52,TF58,TF75,TF96,TF124,TF147,tcC]);refine⟨_,.inl ⟨_,rfl,hfd,rfl⟩,?_⟩;(try simp -implicitDefEqProofs only [EV,forall_const,implies_true,Nat.reduceAdd,Nat.reduceEqDiff,Nat.reduceBEq,Nat.reduceLeDiff,Nat.reduceSub,Nat.reduceMul,Int.reduceEq,Int.reduceLT,Int.reduceLE,Int.reduceSub,Int.reduceAdd,Int.reduceToNat,reduceCtorEq,Int.reduceNeg,TF3,TF4,TF9,TF23,TF25,TF26,TF28,TF30,TF49,TF50,TF52,TF58,TF75,TF96,TF124,TF147,tcC]);apply z;clear z K)
 exact aR
end Go.Abs
