/- what castingsref15.Head, castingsref16.Type, castingsref17.Program and infer compute -/
import Derived.Test.YtgjfipagmicdnaaGreatDoorLS51
import Derived.Test.YtgjfipagmicdnaaGreatDoorLS37
import Derived.Test.YtgjfipagmicdnaaGreatDoorLFB
namespace Go.Abs
set_option linter.unusedSimpArgs false
set_option linter.unusedVariables false
open Go Go.Proofs Tryz
set_option maxRecDepth 100000
set_option maxHeartbeats 1000000
structure TCtx where
 p:Prog
 strict:Bool
 env:List Formal
 vars:List Param
def ty0:Ty:=.mk [] [] 0
def noT (n:Int):Ty × Res:=(ty0,badR n)
abbrev TO:=Ty × Option Int
def noI (n:Int):TO:=(ty0,some n)
def Agree (a:Ty × Res)(b:TO):Prop:=a.2.large=true∧a.2.bad=true∨a.2.large=false∧(a.2.bad=true∧b.2=some a.2.pos∨a.2.bad=false∧a.2.pos=0∧b=(a.1,none))
theorem Agree.no (n:Int):Agree (noT n) (noI n):=.inr ⟨rfl,.inl ⟨rfl,rfl⟩⟩
def varTs (l:List Str):List Ty:=l.map fun v=>.mk v [] 0
def envR (p:Prog)(d:Decl):List Formal:=((formalsT p d.name).zip d.vars).map fun z=>⟨z.2,z.1.bound.subst (fnames (formalsT p d.name)) (varTs d.vars),z.1.pos⟩
def sigsR (p:Prog)(env:List Formal)(pre:List Str):List Sig→Option Int
 | []=>none
 | s::ss=>if s.name∈pre then some s.pos else match sigR p env s with
  | some q=>some q
  | none=>sigsR p env (pre++[s.name]) ss
def typedR (p:Prog)(i:Nat)(d:Decl):Option Int :=
 if findD d.name p.decls 0≠(i:Int) then some d.pos else
 match formalsR p [] d.formals with
 | some q=>some q
 | none=>if d.kind=1 then (match parR p d.formals [] d.fields with
   | some q=>some q
   | none=>if d.name∈reachS p d.name then some d.pos else none) else sigsR p d.formals [] d.sigs
def varsR (p:Prog)(pre:List Str):List Str→Bool
 | []=>false
 | v::vs=>decide (kindOf p v≠0∨v∈pre) || varsR p (pre++[v]) vs
def recvR (d:Decl):Option Int→Option Int
 | some q=>some q
 | none=>(d.sig.params.find? fun f=>decide (f.name=d.recv)).map (·.pos)
def methodR (p:Prog)(i:Nat)(d:Decl):Option Int :=
 if kindOf p d.name≠1∨d.vars.length≠(formalsT p d.name).length then some d.pos else
 if varsR p [] d.vars=true then some d.pos else
 if methI p d.name d.sig.name≠(i:Int) then some d.pos else
 recvR d (sigR p (envR p d) d.sig)
def headR (p:Prog)(i:Nat)(d:Decl):Option Int:=if d.kind=1∨d.kind=2 then typedR p i d else if d.kind=3 then methodR p i d else some d.pos
abbrev q1dx:List Nat:=[0,1,2,3,4,5,6,7,8,9,18,39]
theorem ok_Env15O (p:Prog)(h:p.Sm)(d:Decl)(hd:d.Sm):CallB prog 24 [prV p,deV d] [] (.acc 8) [(8,.rows 5 (foR (envR p d)))]:=by
 have hfl:=formalsT_Sm h d.name
 have hf:=ok_RefFormals p d.name
 have hnm:=ok_RefNames (formalsT p d.name) hfl.1
 have hvl:=hd.vars.1
 have hvs:∀ u,u∈varTs d.vars→u.Sm:=by
  intro u hu
  obtain⟨v,hv,rfl⟩:=List.mem_map.1 hu
  exact .mk _ _ _ (hd.vars.2 v hv) (by simp) (by simp)
 unfold envR
 generalize hL:formalsT p d.name=L at *
 refine bB func24 ?_
 refine sR q1dx ?_
 (refine AWp.freeze 2 rfl rfl ?_;refine AWp.freeze 3 rfl rfl (wk [(2,.dptr (prC p) 0),(3,.dptr (deC d) 0),(4,.d .nil)] [] ?_))
 refine sC hf q1dx ?_
 refine sR q1dx ?_
 refine AWp.promote 6 3 6 rfl ?_
 refine kR q1dx fun K1 u1=>?_
 refine AWp.block (AWp.forIdx d.vars (X:=Unit) (fun j _=>[(3,.dptr (deC d) 0),(5,.d (.slice (foR L))),(6,.acc 6),(7,intV j)]) (fun j _=>[(6,.rows 3 (tyR (varTs (d.vars.take j))))])
  (fun j _=>True) () trivial (by simp [sle,vle,sget,deC]) (by simp [ble,bget,tyR_map,varTs]) ?_ ?_)
 rotate_left
 ·intro j _ s hs hmem dp tk hlt _
  rw [tk]
  refine kR1 hlt q1dx fun K2 u2=>?_
  refine gI u2 ?_
  clear u2 K2
  refine sK fun K2 u2=>?_
  refine AWp.block ?_
  (refine lV q1dx fun K z=>?_;refine ci (strR_get hs) ?_;refine⟨by simp,by simp only [varTs,List.length_map,List.length_take];unfold lim sm at *;omega,?_⟩;(try refine ev ?_);apply z;clear z K;try simp only [thenA,blockA])
  refine u2 _ _ ?_
  clear u2 K2
  refine lT q1dx ?_
  exact⟨(),trivial,(by simp [sle,vle,sget,deC]),by simp [ble,bget,tyR_map,varTs,tyC,Ty.name,Ty.args,Ty.pos]⟩
 intro _ _
 rw [List.take_length]
 refine kR1 Int.lt_irrefl q1dx fun K2 u2=>?_
 refine AWp.stopK rfl ?_
 simp only [thenA,blockA,if_true]
 refine u1 _ _ ?_
 clear u2 K2 u1 K1
 (refine AWp.publish 6 rfl (wk [(3,.dptr (deC d) 0),(5,.d (.slice (foR L))),(6,.d (.slice (tyR (varTs d.vars))))] [] ?_))
 refine sR q1dx ?_
 refine AWp.promote 8 5 8 rfl ?_
 refine kR q1dx fun K1 u1=>?_
 have hsub:∀ z,z∈L.zip d.vars→CallOK prog 66 [tyV z.1.bound,strsV (L.map (·.name)),tysV (varTs d.vars)] (tyV (z.1.bound.subst (fnames L) (varTs d.vars))):=fun z hz =>
  ok_RSubst (L.map (·.name)) (varTs d.vars) hvs z.1.bound (hfl.2 z.1 (List.of_mem_zip hz).1).bound
 refine AWp.block (AWp.forIdx (L.zip d.vars) (X:=Unit) (fun j _=>[(3,.dptr (deC d) 0),(5,.d (.slice (foR L))),(6,.d (.slice (tyR (varTs d.vars)))),(8,.acc 8),(9,intV j)])
  (fun j _=>[(8,.rows 5 (foR (((L.zip d.vars).take j).map fun z=>⟨z.2,z.1.bound.subst (fnames L) (varTs d.vars),z.1.pos⟩)))])
  (fun j _=>True) () trivial (by simp [sle,vle,sget,deC]) (by simp [ble,bget,foR]) ?_ ?_)
 rotate_left
 ·intro j _ z hz hmem dp tk hlt _
  obtain⟨f,v⟩:=z
  rw [List.getElem?_zip_eq_some] at hz
  have hj1:=(List.getElem?_eq_some_iff.1 hz.1).1
  have hj2:=(List.getElem?_eq_some_iff.1 hz.2).1
  have hl1:(j:Int) < (L.length:Int):=by omega
  have hl2:(j:Int) < ((varTs d.vars).length:Int):=by simp only [varTs,List.length_map];omega
  have hs:=hsub (f,v) hmem
  simp only at hs
  have hzl:(L.zip d.vars).length≤sm:=by rw [List.length_zip];omega
  rw [tk]
  refine kR2 hl1 hl2 q1dx fun K2 u2=>?_
  refine gI u2 ?_
  clear u2 K2
  refine sK fun K2 u2=>?_
  refine AWp.block ?_
  (refine lD q1dx [] 22 mixed fun K z=>?_;refine ev ?_;refine ci (strR_get hz.2) ?_;refine ci (foR_get hz.1) ?_;refine cc hnm ?_;refine cc hs ?_;refine ci (foR_get hz.1) ?_;refine⟨by simp,by simp only [List.length_map,List.length_take];unfold lim sm at *;omega,?_⟩;(try refine ev ?_);apply z;clear z K;try simp only [thenA,blockA])
  refine u2 _ _ ?_
  clear u2 K2
  refine lT q1dx ?_
  exact⟨(),trivial,(by simp [sle,vle,sget,deC]),by simp [ble,bget,foR,foC]⟩
 intro _ _
 rw [List.take_length]
 have fin:∀ sl bx,sle sl [(8,.acc 8)]→ble bx [(8,.rows 5 (foR ((L.zip d.vars).map fun z=>⟨z.2,z.1.bound.subst (fnames L) (varTs d.vars),z.1.pos⟩)))]→K1 sl bx:=by
  intro sl bx h1 h2
  refine u1 _ _ (AWp.weaken h1 h2 ?_)
  clear u1 K1
  refine sR q1dx ?_
  exact AWp.ret ⟨_,by rw [results24];rfl,.inl rfl,by simp [ble,bget]⟩
 refine sK fun K2 u2=>?_
 by_cases hl1:L.length≤d.vars.length
 ·have e:(L.zip d.vars).length=L.length:=by rw [List.length_zip];omega
  rw [e]
  refine sR1 Int.lt_irrefl q1dx ?_
  refine AWp.stopK rfl ?_
  simp only [thenA,blockA,if_true]
  exact fin _ _ sS sB
 ·have e:(L.zip d.vars).length=d.vars.length:=by rw [List.length_zip];omega
  rw [e]
  have hl1:(d.vars.length:Int) < (L.length:Int):=by omega
  have hl2:¬ (d.vars.length:Int) < ((varTs d.vars).length:Int):=by simp [varTs]
  refine sR2 hl1 hl2 q1dx ?_
  refine AWp.stopK rfl ?_
  simp only [thenA,blockA,if_true]
  exact fin _ _ sS sB
theorem ok_Env15 (p:Prog)(h:p.Sm)(d:Decl)(hd:d.Sm):CallOK prog 24 [prV p,deV d] (.d (.slice (foR (envR p d)))):=(ok_Env15O p h d hd).pub
abbrev rsC (r:Res):BoxC:=.cells [.d (.int .i64 r.pos),.d (.bool r.bad),.d (.bool r.large)]
abbrev q1ex:List Nat:=[0,1,2,4,5,6,7,8,19,34,52,58,69,79]
set_option maxHeartbeats 4000000 in
theorem ok_typed15 (p:Prog)(h:p.Sm)(hpl:p.decls.length≤100000)(i:Nat)(d:Decl)(hd:p.decls[i]? = some d)(hk:d.kind=1∨d.kind=2)(hsz:∀ s,s∈d.sigs→d.formals.length+s.formals.length≤sm) :
  CallOK prog 36 [prV p,intV i] (rsV (resO (typedR p i d))):=by
 have hds:=h.decls.2 d (List.mem_of_getElem? hd)
 have hfi:=ok_Find p d.name
 have hfo:=ok_Formals15 p h [] d.formals (by simpa using hds.formals.1) (by simp) hds.formals.2
 have hpa:=ok_params15 p h d.formals hds.formals.1 hds.formals.2 d.fields hds.fields.1 hds.fields.2
 have hre:=ok_Reach p hpl d.name
 have hin:=ok_In (reachS p d.name) d.name
 unfold typedR
 refine cB func36 ?_
 refine sR q1ex ?_
 (refine sV q1ex fun K z=>?_;refine ci (deR_get hd) ?_;apply z;clear z K)
 (refine AWp.freeze 2 rfl rfl ?_;refine AWp.freeze 5 rfl rfl (wk [(1,intV i),(2,.dptr (prC p) 0),(4,.box 4 0),(5,.dptr (deC d) 0)] [(4,rs0)] ?_))
 by_cases h0:findD d.name p.decls 0=(i:Int)
 rotate_left
 ·rw [if_pos h0]
  refine sK fun K1 u1=>?_
  (refine sV q1ex fun K z=>?_;refine⟨_,.inl ⟨_,rfl,hfi,rfl⟩,?_⟩;(try refine ev1 h0 ?_);apply z;clear z K)
  refine tI ?_
  refine sR q1ex ?_
  exact aR
 rw [if_neg fun hh=>hh h0]
 rw [h0] at hfi
 refine kC hfi q1ex fun K1 u1=>?_
 refine kI u1 ?_
 clear u1 K1
 cases hf:formalsR p [] d.formals with
 | some q =>
  rw [hf] at hfo
  simp only [rsV,resO,badR] at hfo
  refine sC hfo q1ex ?_
  refine kR q1ex fun K1 u1=>?_
  refine AWp.condF rfl (AWp.skip (u1 _ _ ?_))
  clear u1 K1
  refine sK fun K1 u1=>?_
  rcases hk with k1 | k2
  ·refine sR1 k1 q1ex ?_
   refine tI ?_
   refine sR q1ex ?_
   exact aR
  ·have k1:¬ d.kind=1:=by omega
   refine sR1 k1 q1ex ?_
   refine kI u1 ?_
   clear u1 K1
   refine sR q1ex ?_
   refine kR q1ex fun K1 u1=>?_
   refine AWp.block (AWp.loop (X:=Unit) (fun _=>[(1,intV i),(2,.dptr (prC p) 0),(4,.box 4 0),(5,.dptr (deC d) 0),(6,.box 6 0),(8,intV 0)]) (fun _=>[(4,rs0),(6,rsC (badR q))]) (fun _=>True) (fun _=>0) () trivial (by simp [sle,vle,sget,deC,prC]) (by simp [ble,bget,badR]) ?_)
   intro _ _
   refine sK fun K2 u2=>?_
   by_cases hl:(0:Int) < (d.sigs.length:Int)
   ·refine sR1 hl q1ex ?_
    refine AWp.stopK rfl ?_
    simp only [thenA,blockA,if_true]
    refine u1 _ _ ?_
    refine sR q1ex ?_
    exact aR
   ·refine sR1 hl q1ex ?_
    refine AWp.stopK rfl ?_
    simp only [thenA,blockA,if_true]
    refine u1 _ _ ?_
    refine sR q1ex ?_
    exact aR
 | none =>
  rw [hf] at hfo
  simp only [rsV,resO,res0] at hfo
  simp only
  refine sC hfo q1ex ?_
  by_cases k1:d.kind=1
  ·rw [if_pos k1]
   cases hp:parR p d.formals [] d.fields with
   | some q =>
    rw [hp] at hpa
    simp only [rsV,resO,badR] at hpa
    refine kR1 k1 q1ex fun K1 u1=>?_
    refine AWp.condT rfl ?_
    refine sC hpa q1ex ?_
    (refine sD q1ex [] 12 mixed fun K z=>?_;refine ev ?_;apply z;clear z K)
    refine AWp.condF rfl (AWp.skip ?_)
    simp only [thenA,]
    refine u1 _ _ ?_
    clear u1 K1
    refine kR q1ex fun K1 u1=>?_
    refine tI ?_
    refine sR q1ex ?_
    exact aR
   | none =>
    rw [hp] at hpa
    simp only [rsV,resO,res0] at hpa
    simp only
    by_cases hm:d.name∈reachS p d.name
    ·rw [if_pos hm]
     rw [decide_eq_true hm] at hin
     refine kR1 k1 q1ex fun K1 u1=>?_
     refine AWp.condT rfl ?_
     refine sC hpa q1ex ?_
     (refine sD q1ex [] 12 mixed fun K z=>?_;refine ev ?_;refine cc hre ?_;refine cc hin ?_;apply z;clear z K)
     refine AWp.condT rfl ?_
     (refine lV q1ex fun K z=>?_;apply z;clear z K;try simp only [thenA,])
     refine u1 _ _ ?_
     clear u1 K1
     refine kR q1ex fun K1 u1=>?_
     refine tI ?_
     refine sR q1ex ?_
     exact aR
    ·rw [if_neg hm]
     rw [decide_eq_false hm] at hin
     refine kR1 k1 q1ex fun K1 u1=>?_
     refine AWp.condT rfl ?_
     refine sC hpa q1ex ?_
     (refine sD q1ex [] 12 mixed fun K z=>?_;refine ev ?_;refine cc hre ?_;refine cc hin ?_;apply z;clear z K)
     refine AWp.condF rfl (AWp.skip ?_)
     simp only [thenA,]
     refine u1 _ _ ?_
     clear u1 K1
     refine kR q1ex fun K1 u1=>?_
     refine tI ?_
     refine sR q1ex ?_
     exact aR
  rw [if_neg k1]
  refine kR1 k1 q1ex fun K1 u1=>?_
  refine AWp.condF rfl (AWp.skip (u1 _ _ ?_))
  clear u1 K1
  refine kR1 k1 q1ex fun K1 u1=>?_
  refine kI u1 ?_
  clear u1 K1
  refine sR q1ex ?_
  refine AWp.promote 7 1 7 rfl ?_
  refine kR q1ex fun K1 u1=>?_
  have fin:∀ (r:Res),r=resO (sigsR p d.formals [] d.sigs)→∀ sl bx,sle sl [(4,.box 4 0),(6,.box 6 0)]→ble bx [(4,rs0),(6,rsC r)]→K1 sl bx:=by
   intro r hr sl bx h1 h2
   refine u1 _ _ (AWp.weaken h1 h2 ?_)
   clear u1 K1
   refine sR q1ex ?_
   rw [← hr]
   exact aR
  refine AWp.block (AWp.loop (X:=Nat × Option Int) (fun x=>[(1,intV i),(2,.dptr (prC p) 0),(4,.box 4 0),(5,.dptr (deC d) 0),(6,.box 6 0),(7,.acc 7),(8,intV x.1)]) (fun x=>[(4,rs0),(6,rsC (resO x.2)),(7,.rows 1 (strR ((d.sigs.take x.1).map (·.name))))])
   (fun x=>x.1≤d.sigs.length∧(match x.2 with | some q=>sigsR p d.formals [] d.sigs=some q | none=>sigsR p d.formals ((d.sigs.take x.1).map (·.name)) (d.sigs.drop x.1)=sigsR p d.formals [] d.sigs))
   (fun x=>d.sigs.length - x.1) (0,none) ⟨by simp,by simp⟩ (by simp [sle,vle,sget,deC,prC]) (by simp [ble,bget,strR,resO,res0]) ?_)
  rintro⟨j,o⟩ ⟨hj,hI⟩
  simp only at hj hI
  by_cases hlt:j < d.sigs.length
  ·have hlt':(j:Int) < (d.sigs.length:Int):=by omega
   cases o with
   | some q =>
    simp only at hI
    refine kR1 hlt' q1ex fun K2 u2=>?_
    refine AWp.stopK rfl ?_
    simp only [thenA,blockA,if_true]
    exact fin (badR q) (by rw [hI];rfl) _ _ sS (by simp [ble,bget,resO])
   | none =>
    simp only at hI
    have hs:d.sigs[j]? = some d.sigs[j]:=List.getElem?_eq_getElem hlt
    have hmem:d.sigs[j]∈d.sigs:=List.getElem_mem hlt
    have dp:d.sigs.drop j=d.sigs[j]::d.sigs.drop (j+1):=List.drop_eq_getElem_cons hlt
    have tk:d.sigs.take (j+1)=d.sigs.take j++[d.sigs[j]]:=List.take_succ_eq_append_getElem hlt
    have hsg:=ok_Sig15 p h d.formals d.sigs[j] (hsz _ hmem) hds.formals.2 (hds.sigs.2 _ hmem)
    have hdl:=hds.sigs.1
    generalize d.sigs[j]=s at *
    rw [dp,sigsR] at hI
    have hin:=ok_In ((d.sigs.take j).map (·.name)) s.name
    refine kR1 hlt' q1ex fun K2 u2=>?_
    refine gI u2 ?_
    clear u2 K2
    refine sK fun K2 u2=>?_
    refine AWp.block ?_
    refine sK fun K3 u3=>?_
    by_cases hm:s.name∈(d.sigs.take j).map (·.name)
    ·rw [if_pos hm] at hI
     rw [← hI]
     rw [decide_eq_true hm] at hin
     (refine sV q1ex fun K z=>?_;refine ci (siR_get hs) ?_;refine⟨_,.inr ⟨_,rfl,hin,rfl⟩,?_⟩;(try refine ev ?_);apply z;clear z K)
     refine tI ?_
     (refine sV q1ex fun K z=>?_;refine ci (siR_get hs) ?_;apply z;clear z K)
     exact aR
    rw [if_neg hm] at hI
    rw [decide_eq_false hm] at hin
    (refine sV q1ex fun K z=>?_;refine ci (siR_get hs) ?_;refine⟨_,.inr ⟨_,rfl,hin,rfl⟩,?_⟩;(try refine ev ?_);apply z;clear z K)
    refine kI u3 ?_
    clear u3 K3
    (refine sV q1ex fun K z=>?_;refine ci (siR_get hs) ?_;refine⟨by simp,by simp only [List.length_map,List.length_take];unfold lim sm at *;omega,?_⟩;(try refine ev ?_);apply z;clear z K)
    (refine lD q1ex [] 9 mixed fun K z=>?_;refine ev ?_;refine ci (siR_get hs) ?_;refine cc hsg ?_;apply z;clear z K;try simp only [thenA,blockA])
    refine u2 _ _ ?_
    clear u2 K2
    refine lT q1ex ?_
    refine⟨(j+1,sigR p d.formals s),⟨by omega,?_⟩,by simp only;omega,(by simp [sle,vle,sget,deC,prC]),?_⟩
    ·simp only
     cases hq:sigR p d.formals s with
     | some q=>rw [hq] at hI;exact hI.symm
     | none=>rw [hq] at hI;simp only;rw [tk,List.map_append];exact hI
    ·simp only
     rw [tk,List.map_append]
     cases sigR p d.formals s <;> simp [ble,bget,strR,resO,res0,badR]
  ·have hj':j=d.sigs.length:=by omega
   subst hj'
   refine sK fun K2 u2=>?_
   cases o with
   | some q =>
    simp only at hI
    refine sR1 Int.lt_irrefl q1ex ?_
    refine AWp.stopK rfl ?_
    simp only [thenA,blockA,if_true]
    exact fin (badR q) (by rw [hI];rfl) _ _ sS (by simp [ble,bget,resO])
   | none =>
    simp only at hI
    rw [List.drop_length,sigsR] at hI
    refine sR1 Int.lt_irrefl q1ex ?_
    refine AWp.stopK rfl ?_
    simp only [thenA,blockA,if_true]
    exact fin res0 (by rw [← hI];rfl) _ _ sS (by simp [ble,bget,resO])
theorem varTs_Sm {d:Decl} (hd:d.Sm):∀ u,u∈varTs d.vars→u.Sm:=by
 intro u hu
 obtain⟨v,hv,rfl⟩:=List.mem_map.1 hu
 exact .mk _ _ _ (hd.vars.2 v hv) (by simp) (by simp)
theorem envR_Sm {p:Prog} (h:p.Sm) {d:Decl} (hd:d.Sm):∀ f,f∈envR p d→f.Sm:=by
 intro f hf
 unfold envR at hf
 obtain⟨⟨l,v⟩,hz,rfl⟩:=List.mem_map.1 hf
 have hl:=(formalsT_Sm h d.name).2 l (List.of_mem_zip hz).1
 exact⟨hd.vars.2 v (List.of_mem_zip hz).2,hl.bound.subst (varTs_Sm hd)⟩
theorem envR_len (p:Prog)(d:Decl):(envR p d).length≤d.vars.length:=by
 unfold envR;rw [List.length_map,List.length_zip];omega
abbrev q1fx:List Nat:=[0,1,2,4,5,6,7,8,9,33,39,61,71,90,102]
set_option maxHeartbeats 4000000 in
theorem ok_method15 (p:Prog)(h:p.Sm)(i:Nat)(d:Decl)(hd:p.decls[i]? = some d)(hsz:d.vars.length+d.sig.formals.length≤sm) :
  CallOK prog 37 [prV p,intV i] (rsV (resO (methodR p i d))):=by
 have hds:=h.decls.2 d (List.mem_of_getElem? hd)
 have hki:=ok_Kind p d.name
 have hfo:=ok_RefFormals p d.name
 have hfm:=ok_FindMethod p h.decls.1 d.name d.sig.name
 have henv:=ok_Env15 p h d hds
 have hel:=envR_len p d
 have hsg:=ok_Sig15 p h (envR p d) d.sig (by omega) (envR_Sm h hds) hds.sig
 have hvl:=hds.vars.1
 unfold methodR
 generalize envR p d=ev at *
 generalize formalsT p d.name=L at *
 refine cB func37 ?_
 refine sR q1fx ?_
 (refine sV q1fx fun K z=>?_;refine ci (deR_get hd) ?_;apply z;clear z K)
 refine sR q1fx ?_
 (refine AWp.freeze 2 rfl rfl ?_;refine AWp.freeze 5 rfl rfl (wk [(1,intV i),(2,.dptr (prC p) 0),(4,.box 4 0),(5,.dptr (deC d) 0),(6,.box 6 0)] [(4,rs0),(6,rsC (badR d.pos))] ?_))
 refine sK fun K1 u1=>?_
 by_cases a1:kindOf p d.name=1
 rotate_left
 ·rw [if_pos (.inl a1)]
  (refine sD q1fx [] 16 mixed fun K z=>?_;refine Go.Abs.ev ?_;refine⟨_,.inl ⟨_,rfl,hki,rfl⟩,?_⟩;(try refine Go.Abs.ev1 a1 ?_);apply z;clear z K)
  refine tI ?_
  refine sR q1fx ?_
  exact aR
 by_cases a2:d.vars.length=L.length
 rotate_left
 ·rw [if_pos (.inr a2)]
  have a2':¬ (d.vars.length:Int)=(L.length:Int):=by omega
  (refine sD q1fx [] 16 mixed fun K z=>?_;refine Go.Abs.ev ?_;refine⟨_,.inl ⟨_,rfl,hki,rfl⟩,?_⟩;(try refine Go.Abs.ev1 a1 ?_);refine⟨_,.inl ⟨_,rfl,hfo,rfl⟩,?_⟩;(try refine Go.Abs.ev1 a2' ?_);apply z;clear z K)
  refine tI ?_
  refine sR q1fx ?_
  exact aR
 rw [if_neg (by rintro (hh | hh);exact hh a1;exact hh a2)] at u1 ⊢
 have a2':(d.vars.length:Int)=(L.length:Int):=by omega
 (refine sD q1fx [] 16 mixed fun K z=>?_;refine Go.Abs.ev ?_;refine⟨_,.inl ⟨_,rfl,hki,rfl⟩,?_⟩;(try refine Go.Abs.ev2 a1 a2' ?_);refine cc hfo ?_;apply z;clear z K)
 refine kI u1 ?_
 clear u1 K1 a1 a2 a2'
 refine kR q1fx fun K1 u1=>?_
 refine AWp.block (AWp.forIdx d.vars (X:=Unit) (fun j _=>[(1,intV i),(2,.dptr (prC p) 0),(4,.box 4 0),(5,.dptr (deC d) 0),(6,.box 6 0),(7,intV j)]) (fun _ _=>[(4,rs0),(6,rsC (badR d.pos))])
  (fun j _=>varsR p (d.vars.take j) (d.vars.drop j)=varsR p [] d.vars) () (by simp) (by simp [sle,vle,sget,deC,prC]) (by simp [ble,bget,badR]) ?_ ?_)
 rotate_left
 ·intro j _ s hs hmem dp tk hlt hI
  rw [dp,varsR] at hI
  have hkv:=ok_Kind p s
  have hin:CallOK prog 25 [.d (.slice ((strR d.vars).take j)),strV s] (boolV (decide (s∈d.vars.take j))):=by
   rw [strR,← List.map_take];exact ok_In (d.vars.take j) s
  refine kR1 hlt q1fx fun K2 u2=>?_
  refine gI u2 ?_
  clear u2 K2
  refine sK fun K2 u2=>?_
  refine AWp.block ?_
  by_cases b1:kindOf p s=0
  rotate_left
  ·rw [decide_eq_true (.inl b1),Bool.true_or] at hI
   rw [if_pos hI.symm]
   (refine sD q1fx [] 20 mixed fun K z=>?_;refine Go.Abs.ev ?_;refine ci (strR_get hs) ?_;refine⟨_,.inl ⟨_,rfl,hkv,rfl⟩,?_⟩;(try refine Go.Abs.ev1 b1 ?_);apply z;clear z K)
   refine AWp.condT rfl ?_
   refine sR q1fx ?_
   exact aR
  by_cases b2:s∈d.vars.take j
  ·rw [decide_eq_true (.inr b2),Bool.true_or] at hI
   rw [if_pos hI.symm]
   rw [decide_eq_true b2] at hin
   (refine sD q1fx [] 20 mixed fun K z=>?_;refine Go.Abs.ev ?_;refine ci (strR_get hs) ?_;refine⟨_,.inl ⟨_,rfl,hkv,rfl⟩,?_⟩;(try refine Go.Abs.ev1 b1 ?_);refine⟨strR_row _,by omega,by omega,?_⟩;(try refine Go.Abs.ev1 b1 ?_);refine ci (strR_get hs) ?_;refine cc hin ?_;apply z;clear z K)
   refine AWp.condT rfl ?_
   refine sR q1fx ?_
   exact aR
  rw [decide_eq_false (by rintro (hh | hh);exact hh b1;exact b2 hh),Bool.false_or] at hI
  rw [decide_eq_false b2] at hin
  (refine sD q1fx [] 20 mixed fun K z=>?_;refine Go.Abs.ev ?_;refine ci (strR_get hs) ?_;refine⟨_,.inl ⟨_,rfl,hkv,rfl⟩,?_⟩;(try refine Go.Abs.ev1 b1 ?_);refine⟨strR_row _,by omega,by omega,?_⟩;(try refine Go.Abs.ev1 b1 ?_);refine ci (strR_get hs) ?_;refine cc hin ?_;apply z;clear z K)
  refine AWp.condF rfl (AWp.skip (u2 _ _ ?_))
  clear u2 K2
  refine lT q1fx ?_
  exact⟨(),by rw [tk];exact hI,(by simp [sle,vle,sget,deC,prC]),(by simp [ble,bget,badR])⟩
 intro _ hI
 rw [List.drop_length,varsR] at hI
 rw [← hI,if_neg (by decide)] at u1 ⊢
 clear hI
 refine kR1 Int.lt_irrefl q1fx fun K2 u2=>?_
 refine AWp.stopK rfl ?_
 simp only [thenA,blockA,if_true]
 refine u1 _ _ ?_
 clear u2 K2 u1 K1
 refine sK fun K1 u1=>?_
 by_cases a3:methI p d.name d.sig.name=(i:Int)
 rotate_left
 ·rw [if_pos a3]
  (refine sV q1fx fun K z=>?_;refine⟨_,.inl ⟨_,rfl,hfm,rfl⟩,?_⟩;(try refine Go.Abs.ev1 a3 ?_);apply z;clear z K)
  refine tI ?_
  refine sR q1fx ?_
  exact aR
 rw [if_neg fun hh=>hh a3] at u1 ⊢
 rw [a3] at hfm
 refine sC hfm q1fx ?_
 refine kI u1 ?_
 clear u1 K1
 generalize hq:sigR p ev d.sig=o at *
 generalize hR:recvR d o=R at *
 (refine AWp.seqDL [0,1,2,4,5,6,7,8,9,33,39,61,71,90,102] [] 8 7 8 40 _ mixed (by decide +kernel) (by decide +kernel) ⟨by decide,⟨_,rfl,rfl,rfl,rfl⟩,by decide,(by first | exact TF40.2.2.1 | simp only [TF40])⟩ fun K z=>?_;refine Go.Abs.ev ?_;refine cc henv ?_;refine cc hsg ?_;apply z;clear z K)
 refine kR q1fx fun K1 u1=>?_
 have fin:∀ (r:Res),r=resO R→∀ sl bx,sle sl [(4,.box 4 0),(8,.box 8 0)]→ble bx [(4,rs0),(8,rsC r)]→K1 sl bx:=by
  intro r hr sl bx h1 h2
  refine u1 _ _ (AWp.weaken h1 h2 ?_)
  clear u1 K1
  refine sR q1fx ?_
  rw [← hr]
  exact aR
 refine AWp.block (AWp.loop (X:=Nat × Option Int) (fun x=>[(1,intV i),(2,.dptr (prC p) 0),(4,.box 4 0),(5,.dptr (deC d) 0),(8,.box 8 0),(9,intV x.1)]) (fun x=>[(4,rs0),(8,rsC (resO x.2))])
  (fun x=>x.1≤d.sig.params.length∧(match x.2 with | some q=>R=some q | none=>R=((d.sig.params.drop x.1).find? fun f=>decide (f.name=d.recv)).map (·.pos)))
  (fun x=>d.sig.params.length - x.1) (0,o) ⟨by simp,by cases o <;> exact hR.symm⟩ (by simp [sle,vle,sget,deC,prC]) (by simp [ble,bget,resO]) ?_)
 rintro⟨j,o⟩ ⟨hj,hI⟩
 simp only at hj hI
 by_cases hlt:j < d.sig.params.length
 ·have hlt':(j:Int) < (d.sig.params.length:Int):=by omega
  cases o with
  | some q =>
   simp only at hI
   refine kR1 hlt' q1fx fun K2 u2=>?_
   refine AWp.stopK rfl ?_
   simp only [thenA,blockA,if_true]
   exact fin (badR q) (by rw [hI];rfl) _ _ sS (by simp [ble,bget,resO])
  | none =>
   simp only at hI
   have hs:d.sig.params[j]? = some d.sig.params[j]:=List.getElem?_eq_getElem hlt
   have dp:d.sig.params.drop j=d.sig.params[j]::d.sig.params.drop (j+1):=List.drop_eq_getElem_cons hlt
   have hdl:=hds.sig.params.1
   generalize d.sig.params[j]=s at *
   rw [dp,List.find?_cons] at hI
   refine kR1 hlt' q1fx fun K2 u2=>?_
   refine gI u2 ?_
   clear u2 K2
   refine sK fun K2 u2=>?_
   refine AWp.block ?_
   by_cases hm:s.name=d.recv
   ·rw [decide_eq_true hm] at hI
    (refine sD q1fx [] 10 mixed fun K z=>?_;refine Go.Abs.ev ?_;refine⟨by omega,_,paR_get hs,rfl,?_⟩;(try refine Go.Abs.ev1 hm ?_);apply z;clear z K)
    refine AWp.condT rfl ?_
    (refine lV q1fx fun K z=>?_;refine ci (paR_get hs) ?_;apply z;clear z K;try simp only [thenA,blockA])
    refine u2 _ _ ?_
    clear u2 K2
    refine lT q1fx ?_
    exact⟨(j+1,some s.pos),⟨by omega,by simpa using hI⟩,by simp only;omega,(by simp [sle,vle,sget,deC,prC]),by simp [ble,bget,resO,badR]⟩
   ·rw [decide_eq_false hm] at hI
    (refine sD q1fx [] 10 mixed fun K z=>?_;refine Go.Abs.ev ?_;refine⟨by omega,_,paR_get hs,rfl,?_⟩;(try refine Go.Abs.ev1 hm ?_);apply z;clear z K)
    refine AWp.condF rfl (AWp.skip (u2 _ _ ?_))
    clear u2 K2
    refine lT q1fx ?_
    exact⟨(j+1,none),⟨by omega,hI⟩,by simp only;omega,(by simp [sle,vle,sget,deC,prC]),by simp [ble,bget,resO]⟩
 ·have hj':j=d.sig.params.length:=by omega
  subst hj'
  refine kR1 Int.lt_irrefl q1fx fun K2 u2=>?_
  refine AWp.stopK rfl ?_
  simp only [thenA,blockA,if_true]
  cases o with
  | some q =>
   simp only at hI
   exact fin (badR q) (by rw [hI];rfl) _ _ sS (by simp [ble,bget,resO])
  | none =>
   simp only at hI
   rw [List.drop_length] at hI
   exact fin res0 (by rw [hI];rfl) _ _ sS (by simp [ble,bget,resO])
structure Decl.Two (d:Decl):Prop where
 sigs:∀ s,s∈d.sigs→d.formals.length+s.formals.length≤sm
 sig:d.vars.length+d.sig.formals.length≤sm
theorem Decl.Nn.two {d:Decl} (h:d.Nn):d.Two:=⟨fun s hs=>by have:=(h.sigs s hs).flen;have:=h.flen;unfold sm;omega,by have:=h.sig.flen;have:=h.vlen;unfold sm;omega⟩
abbrev q2fx:List Nat:=[0,1,2,4,5,14,27,32]
theorem ok_Head15 (p:Prog)(h:p.Sm)(hpl:p.decls.length≤100000)(i:Nat)(d:Decl)(hd:p.decls[i]? = some d)(h2:d.Two):CallOK prog 13 [prV p,intV i] (rsV (resO (headR p i d))):=by
 have hlt:=(List.getElem?_eq_some_iff.1 hd).1
 have g1:¬ (i:Int) < 0:=by omega
 have g2:¬ (i:Int) ≥ (p.decls.length:Int):=by omega
 unfold headR
 by_cases hk:d.kind=1∨d.kind=2
 ·rw [if_pos hk]
  have hc:=ok_typed15 p h hpl i d hd hk h2.sigs
  generalize resO (typedR p i d)=r at *
  refine cB func13 ?_
  refine sR q2fx ?_
  refine kR2 g1 g2 q2fx fun K1 u1=>?_
  refine kI u1 ?_
  clear u1 K1
  (refine sV q2fx fun K z=>?_;refine ci (deR_get hd) ?_;apply z;clear z K)
  refine sK fun K1 u1=>?_
  by_cases k1:d.kind=1
  ·refine sR1 k1 q2fx ?_
   refine tI ?_
   refine sC hc q2fx ?_
   exact aR
  ·have k2:d.kind=2:=by omega
   refine sR1 k2 q2fx ?_
   refine tI ?_
   refine sC hc q2fx ?_
   exact aR
 rw [if_neg hk]
 obtain⟨k1,k2⟩:=not_or.1 hk
 by_cases k3:d.kind=3
 ·rw [if_pos k3]
  have hc:=ok_method15 p h i d hd h2.sig
  generalize resO (methodR p i d)=r at *
  refine cB func13 ?_
  refine sR q2fx ?_
  refine kR2 g1 g2 q2fx fun K1 u1=>?_
  refine kI u1 ?_
  clear u1 K1
  (refine sV q2fx fun K z=>?_;refine ci (deR_get hd) ?_;apply z;clear z K)
  refine kR2 k1 k2 q2fx fun K1 u1=>?_
  refine kI u1 ?_
  clear u1 K1
  refine kR1 k3 q2fx fun K1 u1=>?_
  refine tI ?_
  refine sC hc q2fx ?_
  exact aR
 rw [if_neg k3]
 refine cB func13 ?_
 refine sR q2fx ?_
 refine kR2 g1 g2 q2fx fun K1 u1=>?_
 refine kI u1 ?_
 clear u1 K1
 (refine sV q2fx fun K z=>?_;refine ci (deR_get hd) ?_;apply z;clear z K)
 refine kR2 k1 k2 q2fx fun K1 u1=>?_
 refine kI u1 ?_
 clear u1 K1
 refine kR1 k3 q2fx fun K1 u1=>?_
 refine kI u1 ?_
 clear u1 K1
 (refine sV q2fx fun K z=>?_;refine ci (deR_get hd) ?_;apply z;clear z K)
 exact aR
end Go.Abs
