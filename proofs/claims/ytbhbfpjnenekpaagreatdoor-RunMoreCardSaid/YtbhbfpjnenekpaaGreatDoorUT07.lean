/- typing: inversion; what a substitution of types and of values keeps -/
import Derived.Test.YtbhbfpjnenekpaaGreatDoorUT02
import Derived.Test.YtbhbfpjnenekpaaGreatDoorUS43
import Derived.Test.YtbhbfpjnenekpaaGreatDoorUS45
namespace Go.Abs
set_option linter.unusedSimpArgs false
set_option linter.unusedVariables false
open Go Go.Proofs
set_option maxRecDepth 100000
set_option maxHeartbeats 1000000
theorem structT_iff {c:TCtx} {x:Ty}:structT c x=true↔instB c.p x 1=true∧boundV c.env x=none:=by
 unfold structT
 have:(boundV c.env x=none)↔findV c.env x < 0:=by
  unfold boundV
  constructor
  ·intro h
   refine Decidable.byContradiction fun hn=>?_
   rw [if_neg hn] at h
   obtain⟨f,hf,_⟩:=findV_get hn
   rw [hf] at h;cases h
  ·intro h;rw [if_pos h]
 rw [this,Bool.and_eq_true,decide_eq_true_eq]
 exact And.comm
def KidsOK (c:TCtx)(ws:List Ty)(es:List Ex):Prop:=ws.length=es.length∧∀ (i:Nat)(w:Ty)(k:Ex),ws[i]? = some w→es[i]? = some k→∃ K,typeI c k=(K,none)∧implB c.p c.env K w=true
theorem kidsI_iff {c:TCtx}:∀ (ws:List Ty)(es:List Ex),ws.length=es.length→(kidsI c ws es (es.map (typeI c))=none↔∀ (i:Nat)(w:Ty)(k:Ex),ws[i]? = some w→es[i]? = some k→∃ K,typeI c k=(K,none)∧implB c.p c.env K w=true)
 | [],[],_=>by simp [kidsI]
 | [],_::_,h=>by simp at h
 | _::_,[],h=>by simp at h
 | w::ws,e::es,h=>by
  have ih:=kidsI_iff (c:=c) ws es (by simpa using h)
  rw [List.map_cons,kidsI]
  have hf:fitsI c w e (typeI c e)=none↔∃ K,typeI c e=(K,none)∧implB c.p c.env K w=true:=by
   unfold fitsI
   obtain⟨t,o⟩:=typeI c e
   cases o with
   | some q=>simp
   | none =>
    simp only [Prod.mk.injEq,and_true]
    constructor
    ·intro h;split at h
     ·rename_i hi;exact⟨t,rfl,hi⟩
     ·cases h
    ·rintro⟨K,rfl,hi⟩;rw [if_pos hi]
  constructor
  ·intro hk i w' k' h1 h2
   cases hfe:fitsI c w e (typeI c e) with
   | some q=>rw [hfe] at hk;cases hk
   | none =>
    rw [hfe] at hk
    cases i with
    | zero=>simp only [List.getElem?_cons_zero,Option.some.injEq] at h1 h2;subst h1;subst h2;exact hf.1 hfe
    | succ i=>exact ih.1 hk i w' k' (by simpa using h1) (by simpa using h2)
  ·intro hall
   rw [hf.2 (hall 0 w e rfl rfl)]
   exact ih.2 fun i w' k' h1 h2=>hall (i+1) w' k' (by simpa using h1) (by simpa using h2)
theorem orI_iff {o:Option Int} {t u:Ty}:orI o t=(u,none)↔o=none∧u=t:=by
 unfold orI;cases o with
 | some q=>simp [noI]
 | none=>simp [eq_comm]
theorem noI_ne {n:Int} {t:Ty}:noI n=(t,none)↔False:=by simp [noI]
theorem sigT_iff {c:TCtx} {e:Ex} {x:Ty} {s:Sig}:sigT c e x=.inr s↔s∈setU c.p c.env x∧s.name=e.name∧s.formals.length=e.targs.length∧(∀ t,t∈e.targs→chk c.p c.env t=none)∧boundsI c.p c.env s.formals e.targs < 0∧e.kids.length=s.params.length+1:=by
 have hcore:∀ s0:Sig,(if nameI (setT c.p c.env x) e.name < 0∨s0.formals.length≠e.targs.length then (.inl e.pos:Int ⊕ Sig) else
  match chkL c.p c.env e.targs with
  | some q=>.inl q
  | none=>if 0≤boundsI c.p c.env s0.formals e.targs then .inl ((e.targs[(boundsI c.p c.env s0.formals e.targs).toNat]?).getD default).pos else
   if e.kids.length≠s0.params.length+1 then .inl e.pos else .inr s0)=.inr s↔0≤nameI (setT c.p c.env x) e.name∧s0=s∧s.formals.length=e.targs.length∧(∀ t,t∈e.targs→chk c.p c.env t=none)∧boundsI c.p c.env s.formals e.targs < 0∧e.kids.length=s.params.length+1:=by
  intro s0
  rw [← chkL_iff]
  by_cases h1:nameI (setT c.p c.env x) e.name < 0∨s0.formals.length≠e.targs.length
  ·rw [if_pos h1]
   simp only [reduceCtorEq,false_iff]
   rintro⟨h2,rfl,h3,_⟩
   rcases h1 with h1 | h1
   ·omega
   ·exact h1 h3
  rw [if_neg h1]
  obtain⟨h2,h3⟩:=not_or.1 h1
  have h3:=Decidable.byContradiction h3
  cases hL:chkL c.p c.env e.targs with
  | some q=>simp
  | none =>
   simp only
   by_cases h4:0≤boundsI c.p c.env s0.formals e.targs
   ·rw [if_pos h4];simp only [reduceCtorEq,false_iff];rintro⟨_,rfl,_,_,h5,_⟩;omega
   rw [if_neg h4]
   by_cases h5:e.kids.length≠s0.params.length+1
   ·rw [if_pos h5];simp only [reduceCtorEq,false_iff];rintro⟨_,rfl,_,_,_,h6⟩;exact h5 h6
   rw [if_neg h5]
   constructor
   ·intro h;cases h;exact⟨by omega,rfl,h3,trivial,by omega,Decidable.byContradiction h5⟩
   ·rintro⟨_,rfl,_⟩;rfl
 unfold sigT
 rcases idxF_cases (fun s:Sig=>decide (s.name=e.name)) (setT c.p c.env x) with ⟨h1,h2⟩ | ⟨j,y,h1,h2,h3⟩
 ·have hn:nameI (setT c.p c.env x) e.name = -1:=h1
  constructor
  ·intro h
   split at h
   ·cases h
   ·exact absurd ((hcore _).1 h).1 (by omega)
  ·rintro⟨g1,g2,_⟩
   have:=h2 s (mem_setT.2 g1)
   simp [g2] at this
 ·have hn:nameI (setT c.p c.env x) e.name=j:=h1
  rw [hn,Int.toNat_natCast,h2]
  simp only
  rw [← hn]
  refine (hcore y).trans ?_
  have hy:=List.mem_of_getElem? h2
  have hyn:y.name=e.name:=by simpa using h3
  constructor
  ·rintro⟨_,rfl,g⟩;exact⟨mem_setT.1 hy,hyn,g⟩
  ·rintro⟨g1,g2,g⟩
   exact⟨by omega,nodup_name (setT_names _ _ _) hy (mem_setT.2 g1) (hyn.trans g2.symm),g⟩
theorem fieldI_cases {α:Type} (l:List Param)(nm:Str)(F:Param→α)(d:α)(y:α)(hd:y≠d) :
  ((match l[(fieldI l nm).toNat]? with | some f=>if fieldI l nm < 0 then d else F f | none=>d)=y)↔∃ (k:Nat) (f:Param),fieldI l nm=k∧l[k]? = some f∧F f=y:=by
 rcases idxF_cases (fun f:Param=>decide (f.name=nm)) l with ⟨h1,h2⟩ | ⟨j,x,h1,h2,h3⟩
 ·have hn:fieldI l nm = -1:=h1
  rw [hn]
  constructor
  ·intro h;split at h <;> exact absurd h.symm hd
  ·rintro⟨k,f,h,_⟩;omega
 ·have hn:fieldI l nm=j:=h1
  rw [hn,Int.toNat_natCast,h2]
  simp only
  rw [if_neg (by omega)]
  constructor
  ·intro h;exact⟨j,x,rfl,h2,h⟩
  ·rintro⟨k,f,g1,g2,g3⟩
   have:k=j:=by omega
   subst this
   rw [h2] at g2;cases g2;exact g3
theorem typed_iff {c:TCtx} {e:Ex} {t:Ty}:typeI c e=(t,none) ↔
  (e.kind=1∧∃ (k:Nat) (f:Param),fieldI c.vars e.name=k∧c.vars[k]? = some f∧t=f.type) ∨
  (e.kind=3∧chk c.p c.env e.type=none∧structT c e.type=true∧KidsOK c ((fieldsT c.p e.type).map (·.type)) e.kids∧t=e.type) ∨
  ∃ (v:Ex) (vs:List Ex) (x:Ty),e.kids=v::vs∧typeI c v=(x,none) ∧
   ((e.kind=2∧∃ s,sigT c e x=.inr s∧KidsOK c (parTs s e.targs) vs∧t=s.result.subst (fnames s.formals) e.targs) ∨
    (e.kind=4∧structT c x=true∧∃ (k:Nat) (f:Param),fieldI (fieldsT c.p x) e.name=k∧(fieldsT c.p x)[k]? = some f∧t=f.type) ∨
    (e.kind=5∧chk c.p c.env e.type=none∧(c.strict=true→possT c x e.type=true)∧t=e.type)):=by
 rw [typeI_eq]
 unfold typeIN
 by_cases k1:e.kind=1
 ·rw [if_pos k1]
  unfold varI
  refine (fieldI_cases c.vars e.name (fun f=>(f.type,(none:Option Int))) (noI e.pos) (t,none) (by simp [noI])).trans ?_
  constructor
  ·rintro⟨k,f,h1,h2,h3⟩;exact .inl ⟨k1,k,f,h1,h2,by simpa using h3.symm⟩
  ·rintro (⟨_,k,f,h1,h2,h3⟩ | ⟨h,_⟩ | ⟨_,_,_,_,_,h | h | h⟩)
   ·exact⟨k,f,h1,h2,by rw [h3]⟩
   all_goals omega
 rw [if_neg k1]
 by_cases k3:e.kind=3
 ·rw [if_pos k3]
  unfold litI
  constructor
  ·intro h
   split at h
   ·exact (noI_ne.1 h).elim
   ·rename_i hc
    split at h
    ·exact (noI_ne.1 h).elim
    ·rename_i hs
     obtain⟨h1,h2⟩:=orI_iff.1 h
     have hs1:structT c e.type=true:=by cases hh:structT c e.type with | true=>rfl | false=>exact absurd (.inl hh) hs
     have hl:(fieldsT c.p e.type).length=e.kids.length:=Decidable.byContradiction fun hh=>hs (.inr hh)
     exact .inr (.inl ⟨k3,hc,hs1,⟨by simpa using hl,(kidsI_iff _ _ (by simpa using hl)).1 h1⟩,h2⟩)
  ·rintro (⟨h,_⟩ | ⟨_,hc,hs,hk,rfl⟩ | ⟨_,_,_,_,_,h | h | h⟩)
   ·omega
   ·rw [hc]
    simp only
    have hl:(fieldsT c.p e.type).length=e.kids.length:=by simpa using hk.1
    rw [if_neg (by rw [hs];simp [hl])]
    exact orI_iff.2 ⟨(kidsI_iff _ _ hk.1).2 hk.2,rfl⟩
   all_goals omega
 rw [if_neg k3]
 by_cases k2:e.kind≠2∧e.kind≠4∧e.kind≠5
 ·rw [if_pos k2]
  constructor
  ·intro h;exact (noI_ne.1 h).elim
  ·rintro (⟨h,_⟩ | ⟨h,_⟩ | ⟨_,_,_,_,_,h | h | h⟩) <;> omega
 rw [if_neg k2]
 cases hks:e.kids with
 | nil =>
  constructor
  ·intro h;exact (noI_ne.1 h).elim
  ·rintro (⟨h,_⟩ | ⟨h,_⟩ | ⟨_,_,_,h,_⟩)
   ·omega
   ·omega
   ·cases h
 | cons v vs =>
  simp only [List.map_cons]
  have hred:∀ Q:Prop,((e.kind=1∧Q)∨(e.kind=3∧chk c.p c.env e.type=none∧structT c e.type=true∧KidsOK c ((fieldsT c.p e.type).map (·.type)) (v::vs)∧t=e.type)∨∃ (v':Ex) (vs':List Ex) (x:Ty),v::vs=v'::vs'∧typeI c v'=(x,none) ∧
   ((e.kind=2∧∃ s,sigT c e x=.inr s∧KidsOK c (parTs s e.targs) vs'∧t=s.result.subst (fnames s.formals) e.targs) ∨
    (e.kind=4∧structT c x=true∧∃ (k:Nat) (f:Param),fieldI (fieldsT c.p x) e.name=k∧(fieldsT c.p x)[k]? = some f∧t=f.type) ∨
    (e.kind=5∧chk c.p c.env e.type=none∧(c.strict=true→possT c x e.type=true)∧t=e.type)))↔∃ x,typeI c v=(x,none) ∧
   ((e.kind=2∧∃ s,sigT c e x=.inr s∧KidsOK c (parTs s e.targs) vs∧t=s.result.subst (fnames s.formals) e.targs) ∨
    (e.kind=4∧structT c x=true∧∃ (k:Nat) (f:Param),fieldI (fieldsT c.p x) e.name=k∧(fieldsT c.p x)[k]? = some f∧t=f.type) ∨
    (e.kind=5∧chk c.p c.env e.type=none∧(c.strict=true→possT c x e.type=true)∧t=e.type)):=by
   intro Q
   constructor
   ·rintro (⟨h,_⟩ | ⟨h,_⟩ | ⟨v',vs',x,h1,h2,h3⟩)
    ·omega
    ·omega
    ·cases h1;exact⟨x,h2,h3⟩
   ·rintro⟨x,h2,h3⟩;exact .inr (.inr ⟨v,vs,x,rfl,h2,h3⟩)
  rw [hred]
  rcases hv:typeI c v with ⟨x,o⟩
  cases o with
  | some q =>
   simp only [noI_ne,false_iff]
   rintro⟨y,h,_⟩;cases h
  | none =>
   simp only
   have hx:∀ R:Ty→Prop,(∃ y,(x,(none:Option Int))=(y,none)∧R y)↔R x:=fun R=>⟨fun⟨y,h,r⟩=>by cases h;exact r,fun r=>⟨x,rfl,r⟩⟩
   rw [hx]
   by_cases e2:e.kind=2
   ·rw [if_pos e2]
    unfold callI
    constructor
    ·intro h
     split at h
     ·exact (noI_ne.1 h).elim
     ·rename_i s hs
      obtain⟨h1,h2⟩:=orI_iff.1 h
      have hl:=(sigT_iff.1 hs).2.2.2.2.2
      rw [hks,List.length_cons] at hl
      rw [hks] at h1
      have hl':(parTs s e.targs).length=vs.length:=by unfold parTs;rw [List.length_map];omega
      exact .inl ⟨e2,s,hs,⟨hl',(kidsI_iff _ _ hl').1 h1⟩,h2⟩
    ·rintro (⟨_,s,hs,hk,rfl⟩ | ⟨h,_⟩ | ⟨h,_⟩)
     ·rw [hs]
      simp only
      rw [hks]
      exact orI_iff.2 ⟨(kidsI_iff _ _ hk.1).2 hk.2,rfl⟩
     all_goals omega
   rw [if_neg e2]
   by_cases e4:e.kind=4
   ·rw [if_pos e4]
    unfold selI
    constructor
    ·intro h
     split at h
     ·exact (noI_ne.1 h).elim
     ·rename_i hs
      obtain⟨k,f,h1,h2,h3⟩:=(fieldI_cases (fieldsT c.p x) e.name (fun f=>(f.type,(none:Option Int))) (noI e.pos) (t,none) (by simp [noI])).1 h
      exact .inr (.inl ⟨e4,by simpa using hs,k,f,h1,h2,by simpa using h3.symm⟩)
    ·rintro (⟨h,_⟩ | ⟨_,hs,k,f,h1,h2,h3⟩ | ⟨h,_⟩)
     ·omega
     ·rw [if_neg (by rw [hs];simp)]
      exact (fieldI_cases (fieldsT c.p x) e.name (fun f=>(f.type,(none:Option Int))) (noI e.pos) (t,none) (by simp [noI])).2 ⟨k,f,h1,h2,by rw [h3]⟩
     ·omega
   rw [if_neg e4]
   unfold asrtI
   constructor
   ·intro h
    split at h
    ·exact (noI_ne.1 h).elim
    ·rename_i hc
     split at h
     ·exact (noI_ne.1 h).elim
     ·rename_i hs
      exact .inr (.inr ⟨by omega,hc,fun hst=>by cases hp:possT c x e.type with | true=>rfl | false=>exact absurd ⟨hst,hp⟩ hs,by simpa using h.symm⟩)
   ·rintro (⟨h,_⟩ | ⟨h,_⟩ | ⟨_,hc,hs,rfl⟩)
    ·omega
    ·omega
    ·rw [hc]
     simp only
     rw [if_neg]
     rintro⟨h1,h2⟩
     rw [hs h1] at h2;cases h2
theorem fieldsT_er {p:Prog} {x y:Ty} (h:x.er=y.er):(fieldsT p x).map Param.er=(fieldsT p y).map Param.er:=by
 obtain⟨h1,h2,_⟩:=er_inj h
 unfold fieldsT
 rw [instB_er h,h1]
 split
 ·unfold fieldsD
  rw [List.map_map,List.map_map]
  refine List.map_congr_left fun f _=>?_
  simp only [Function.comp,pasubst_er,h2]
 ·rfl
theorem er_get {α β:Type} {f:α→β} {l m:List α} (h:l.map f=m.map f) {i:Nat} {x:α} (hx:l[i]? = some x):∃ y,m[i]? = some y∧f y=f x:=by
 have:(l.map f)[i]? = (m.map f)[i]?:=by rw [h]
 rw [List.getElem?_map,List.getElem?_map,hx] at this
 cases hy:m[i]? with
 | none=>rw [hy] at this;cases this
 | some y=>rw [hy] at this;exact⟨y,rfl,by simpa using this.symm⟩
theorem sig_er {s s':Sig} (h:s'.er=s.er):s'.name=s.name∧s'.formals.map Formal.er=s.formals.map Formal.er∧s'.params.map Param.er=s.params.map Param.er∧s'.result.er=s.result.er:=by
 unfold Sig.er at h;rw [Sig.mk.injEq] at h;exact⟨h.1,h.2.1,h.2.2.1,h.2.2.2.1⟩
theorem struct_impl {p:Prog} {env:List Formal} {x y:Ty} (hy:instB p y 1=true)(h:implB p env x y=true):x.er=y.er:=by
 have hi:¬ isIface p env y=true:=fun hh=>by
  unfold isIface at hh
  rw [Bool.and_eq_true] at hh
  have:=(inst_kind hh.1).1;have:=(inst_kind hy).1;omega
 unfold implB at h
 rw [if_neg hi,sameT_er] at h;exact h
section
variable {p:Prog} {env env':List Formal} {v:List Str} {a:List Ty}
theorem node_sb (hp:PW p)(sb:Sb p env env' v a)(ha:∀ u,u∈a→chk p env' u=none) {st:Bool} {vars vars':List Param} {e e':Ex} {t:Ty}
  (hk:e'.kind=e.kind) (hn:e'.name=e.name) (ht:e'.type=e.type.subst v a) (hg:e'.targs=e.targs.map (Ty.subst v a)) (hl:e'.kids.length=e.kids.length) (h1:e.kind≠1)
  (h:typeI ⟨p,st,env,vars⟩ e=(t,none))
  (ih:∀ (i:Nat) (k k':Ex) (K:Ty),e.kids[i]? = some k→e'.kids[i]? = some k'→typeI ⟨p,st,env,vars⟩ k=(K,none)→∃ K',typeI ⟨p,false,env',vars'⟩ k'=(K',none)∧implB p env' K' (K.subst v a)=true) :
  ∃ t',typeI ⟨p,false,env',vars'⟩ e'=(t',none)∧implB p env' t' (t.subst v a)=true:=by
 have kids:∀ (ws ws':List Ty) (es es':List Ex) (off:Nat),KidsOK ⟨p,st,env,vars⟩ ws es→es.length=es'.length→ws'.length=ws.length →
   (∀ (i:Nat) (k:Ex),es[i]? = some k→e.kids[i+off]? = some k)→(∀ (i:Nat) (k:Ex),es'[i]? = some k→e'.kids[i+off]? = some k) →
   (∀ (i:Nat) (w w':Ty),ws[i]? = some w→ws'[i]? = some w'→w'.er=(w.subst v a).er)→KidsOK ⟨p,false,env',vars'⟩ ws' es':=by
  intro ws ws' es es' off hK hel hwl h1 h2 h3
  refine⟨by rw [hwl,hK.1,hel],fun i w' k' g1 g2=>?_⟩
  have hi:i < ws.length:=by rw [← hwl];exact (List.getElem?_eq_some_iff.1 g1).1
  have hw:ws[i]? = some ws[i]:=List.getElem?_eq_getElem hi
  have hi2:i < es.length:=by rw [← hK.1];exact hi
  have hkk:es[i]? = some es[i]:=List.getElem?_eq_getElem hi2
  obtain⟨K,c1,c2⟩:=hK.2 i _ _ hw hkk
  obtain⟨K',d1,d2⟩:=ih (i+off) _ k' K (h1 i _ hkk) (h2 i k' g2) c1
  exact⟨K',d1,implB_trans d2 (implB_trans (impl_sb hp sb c2) (impl_of_er (h3 i _ w' hw g1).symm))⟩
 rcases typed_iff.1 h with ⟨h,_⟩ | ⟨k3,hc,hs,hK,rfl⟩ | ⟨w,ws,x,hks,hx,hcase⟩
 ·exact absurd h h1
 ·obtain⟨i1,i2⟩:=structT_iff.1 hs
  obtain⟨_,j2,_,j4⟩:=sb.inst (by decide) i1
  have hf:=fields_sb hp sb i1
  refine⟨e'.type,typed_iff.2 (.inr (.inl ⟨by omega,?_,?_,?_,rfl⟩)),?_⟩
  ·rw [ht];exact chk_sb hp sb ha hc
  ·rw [ht];exact structT_iff.2 ⟨j2,j4⟩
  ·refine kids _ _ _ _ 0 hK hl.symm ?_ (fun i k h=>h) (fun i k h=>h) ?_
   ·rw [ht]
    show ((fieldsT p (e.type.subst v a)).map (·.type)).length=((fieldsT p e.type).map (·.type)).length
    rw [hf];simp
   ·intro i y y' g1 g2
    rw [ht] at g2
    have g2:((fieldsT p (e.type.subst v a)).map (·.type))[i]? = some y':=g2
    have g1:((fieldsT p e.type).map (·.type))[i]? = some y:=g1
    rw [hf,List.map_map,List.getElem?_map,Option.map_eq_some_iff] at g2
    rw [List.getElem?_map,Option.map_eq_some_iff] at g1
    obtain⟨f,f1,rfl⟩:=g1
    obtain⟨f',f2,rfl⟩:=g2
    rw [f1] at f2;cases f2;rfl
  ·rw [ht];exact implB_refl _ _ _
 ·have hkl:0 < e'.kids.length:=by rw [hl,hks];simp
  cases hks':e'.kids with
  | nil=>rw [hks'] at hkl;simp at hkl
  | cons w' ws' =>
   have hwl:ws'.length=ws.length:=by rw [hks,hks'] at hl;simpa using hl
   obtain⟨x',hx',hxi⟩:=ih 0 w w' x (by rw [hks];rfl) (by rw [hks'];rfl) hx
   rcases hcase with ⟨k2,s,hs,hK,rfl⟩ | ⟨k4,hs,k,f,hf1,hf2,rfl⟩ | ⟨k5,hc,_,rfl⟩
   ·obtain⟨s1,s2,s3,s4,s5,s6⟩:=sigT_iff.1 hs
    simp only at s1 s2 s3 s4 s5 s6
    obtain⟨r1,hr1,he1⟩:=setU_sb hp sb s1
    obtain⟨s',hs',he2⟩:=impl_cov hxi r1 hr1
    obtain⟨q1,q2,q3,q4⟩:=sig_er (he2.trans he1)
    have hcn:=(setU_Cn s s1).fs
    have hloc:∀ n,n∈fnames s.formals→isLoc n:=fun n hn=>by
     rw [hcn] at hn
     obtain⟨i,_,rfl⟩:=List.mem_map.1 hn
     exact⟨i,rfl⟩
    have hfn:fnames s'.formals=fnames s.formals:=by
     rw [← fnames_er s'.formals,q2,fnames_er]
     simp only [Sig.subst,fnames,List.map_map];rfl
    have hsw:∀ (b b':Ty),b'.er=(b.subst v a).er→(b'.subst (fnames s'.formals) e'.targs).er=((b.subst (fnames s.formals) e.targs).subst v a).er:=by
     intro b b' hb
     rw [subst_swap (fun n hn=>sb.out (.inl (hloc n hn))) (fun u hu=>(sb.clean u hu).mono fun n hn hm=>hn (hloc n hm)),subst_er,subst_er,hb,hfn,hg]
    have hsl:s'.formals.length=s.formals.length:=by have:=congrArg List.length q2;simpa [Sig.subst] using this
    have hpl:s'.params.length=s.params.length:=by have:=congrArg List.length q3;simpa [Sig.subst] using this
    have hsig:sigT ⟨p,false,env',vars'⟩ e' x'=.inr s':=by
     rw [sigT_iff]
     simp only
     refine⟨hs',by rw [q1,hn];exact s2,by rw [hsl,s3,hg,List.length_map],fun u hu=>?_,?_,by rw [hl,hpl];exact s6⟩
     ·rw [hg] at hu
      obtain⟨u0,hu0,rfl⟩:=List.mem_map.1 hu
      exact chk_sb hp sb ha (s4 u0 hu0)
     ·rw [bounds_iff] at s5 ⊢
      intro i f' u' f1 f2
      obtain⟨g,g1,g2⟩:=er_get q2 f1
      simp only [Sig.subst] at g1
      rw [List.getElem?_map,Option.map_eq_some_iff] at g1
      obtain⟨f,f3,rfl⟩:=g1
      rw [hg,List.getElem?_map,Option.map_eq_some_iff] at f2
      obtain⟨u,f4,rfl⟩:=f2
      have hb:=congrArg Formal.bound g2
      exact implB_trans (impl_sb hp sb (s5 i f u f3 f4)) (impl_of_er (hsw f.bound f'.bound hb.symm).symm)
    refine⟨_,typed_iff.2 (.inr (.inr ⟨w',ws',x',hks',hx',.inl ⟨by omega,s',hsig,?_,rfl⟩⟩)),?_⟩
    ·refine kids _ _ _ _ 1 hK hwl.symm (by simp [parTs,hpl]) (fun i k h=>by rw [hks,List.getElem?_cons_succ];exact h) (fun i k h=>by rw [hks',List.getElem?_cons_succ];exact h) ?_
     intro i y y' g1 g2
     unfold parTs at g1 g2
     rw [List.getElem?_map,Option.map_eq_some_iff] at g1 g2
     obtain⟨f,f1,rfl⟩:=g1
     obtain⟨f',f2,rfl⟩:=g2
     obtain⟨g,h1,h2⟩:=er_get q3 f2
     simp only [Sig.subst] at h1
     rw [List.getElem?_map,f1] at h1
     simp only [Option.map_some,Option.some.injEq] at h1
     subst h1
     exact hsw _ _ (congrArg Param.type h2).symm
    ·exact impl_of_er (hsw _ _ q4)
   ·obtain⟨i1,i2⟩:=structT_iff.1 hs
    obtain⟨_,j2,_,j4⟩:=sb.inst (by decide) i1
    have hex:=struct_impl j2 hxi
    have hfe:(fieldsT p x').map Param.er=((fieldsT p x).map (Param.subst v a)).map Param.er:=by rw [← fields_sb hp sb i1];exact fieldsT_er hex
    have hnm:(fieldsT p x').map (·.name)=(fieldsT p x).map (·.name):=by
     have:=congrArg (List.map Param.name) hfe
     simp only [List.map_map] at this
     exact this
    have hfx:(((fieldsT p x).map (Param.subst v a)))[k]? = some (f.subst v a):=by
     have hf2:(fieldsT p x)[k]? = some f:=hf2
     rw [List.getElem?_map,hf2];rfl
    obtain⟨f',f1,f2⟩:=er_get hfe.symm hfx
    refine⟨f'.type,typed_iff.2 (.inr (.inr ⟨w',ws',x',hks',hx',.inr (.inl ⟨by omega,?_,k,f',?_,f1,rfl⟩)⟩)),?_⟩
    ·exact structT_iff.2 ⟨by rw [instB_er hex];exact j2,by simp only;rw [boundV_er hex];exact j4⟩
    ·have hf1:fieldI (fieldsT p x) e.name=k:=hf1
     show fieldI (fieldsT p x') e'.name=k
     unfold fieldI at hf1 ⊢
     rw [idx_names,hnm,hn,← idx_names,hf1]
    ·exact impl_of_er (congrArg Param.type f2)
   ·refine⟨e'.type,typed_iff.2 (.inr (.inr ⟨w',ws',x',hks',hx',.inr (.inr ⟨by omega,?_,(fun h=>by cases h),rfl⟩)⟩)),?_⟩
    ·rw [ht];exact chk_sb hp sb ha hc
    ·rw [ht];exact implB_refl _ _ _
theorem esubst_eq (v:List Str)(a:List Ty)(e:Ex):e.subst v a=.mk e.kind e.name (e.type.subst v a) (e.targs.map (Ty.subst v a)) (e.kids.map (Ex.subst v a)) e.pos:=by
 unfold Ex.subst
 rw [mapped_eq]
 cases e;rfl
theorem erepl_eq (names:List Str)(vals:List Ex)(e:Ex):e.repl names vals=replG names vals (e.kidded (e.kids.map (Ex.repl names vals))):=by
 unfold Ex.repl
 rw [mapped_eq]
theorem typed_sb (hp:PW p)(sb:Sb p env env' v a)(ha:∀ u,u∈a→chk p env' u=none) {st:Bool} {vars vars':List Param} {vals:List Ex} (hvl:vals.length=vars.length)
  (hval:∀ (i:Nat) (f:Param) (u:Ex),vars[i]? = some f→vals[i]? = some u→∃ K,typeI ⟨p,false,env',vars'⟩ u=(K,none)∧implB p env' K (f.type.subst v a)=true) :
  ∀ (e:Ex) (t:Ty),typeI ⟨p,st,env,vars⟩ e=(t,none)→∃ t',typeI ⟨p,false,env',vars'⟩ ((e.subst v a).repl (vars.map (·.name)) vals)=(t',none)∧implB p env' t' (t.subst v a)=true:=by
 intro e
 induction e using Ex.induct with | _ e ih=>?_
 intro t h
 by_cases k1:e.kind=1
 ·rcases typed_iff.1 h with ⟨_,k,f,h1,h2,rfl⟩ | ⟨h3,_⟩ | ⟨_,_,_,_,_,h3 | h3 | h3⟩
  ·simp only at h1 h2
   have hk:k < vars.length:=(List.getElem?_eq_some_iff.1 h2).1
   have hu:vals[k]? = some vals[k]:=List.getElem?_eq_getElem (by omega)
   obtain⟨K,g1,g2⟩:=hval k f _ h2 hu
   refine⟨K,?_,g2⟩
   have hix:indexS e.name (vars.map (·.name)) 0=k:=by rw [← idx_names];exact h1
   have hrepl:(e.subst v a).repl (vars.map (·.name)) vals=vals[k]:=by
    rw [erepl_eq,esubst_eq]
    unfold replG
    refine (if_pos (show e.kind=1∧0≤indexS e.name (vars.map (·.name)) 0∧indexS e.name (vars.map (·.name)) 0 < vals.length from⟨k1,by rw [hix];omega,by rw [hix];omega⟩)).trans ?_
    show (vals[(indexS e.name (vars.map (·.name)) 0).toNat]?).getD _=_
    rw [hix,Int.toNat_natCast,hu];rfl
   rw [hrepl];exact g1
  all_goals omega
 ·have hrepl:(e.subst v a).repl (vars.map (·.name)) vals=.mk e.kind e.name (e.type.subst v a) (e.targs.map (Ty.subst v a)) (e.kids.map fun k=>(k.subst v a).repl (vars.map (·.name)) vals) e.pos:=by
   rw [erepl_eq,esubst_eq]
   unfold replG
   refine (if_neg (show ¬ (e.kind=1∧0≤indexS e.name (vars.map (·.name)) 0∧indexS e.name (vars.map (·.name)) 0 < vals.length) from fun hh=>k1 hh.1)).trans ?_
   show Ex.mk e.kind e.name (e.type.subst v a) (e.targs.map (Ty.subst v a)) ((e.kids.map (Ex.subst v a)).map (Ex.repl (vars.map (·.name)) vals)) e.pos=_
   rw [List.map_map];rfl
  rw [hrepl]
  refine node_sb hp sb ha (vars:=vars) (e:=e) rfl rfl rfl rfl (by simp [Ex.kids]) k1 h ?_
  intro i k k' K h1 h2 h3
  have h2:(e.kids.map fun k=>(k.subst v a).repl (vars.map (·.name)) vals)[i]? = some k':=h2
  rw [List.getElem?_map,h1] at h2
  simp only [Option.map_some,Option.some.injEq] at h2
  subst h2
  exact ih k (List.mem_of_getElem? h1) K h3
end
end Go.Abs
/- a step keeps the type of an expression, or makes it smaller -/
namespace Go.Abs
set_option linter.unusedSimpArgs false
set_option linter.unusedVariables false
open Go Go.Proofs
set_option maxRecDepth 100000
set_option maxHeartbeats 1000000
theorem decVal (u:Nat):(Lib.decDigits u).foldl (fun a b=>10*a+(b.toNat - 48)) 0=u:=by
 induction u using Nat.strongRecOn with | _ u ih=>?_
 rw [Lib.decDigits]
 split
 ·rename_i h
  simp only [List.foldl_cons,List.foldl_nil]
  rw [UInt8.toNat_ofNat']
  omega
 ·rename_i h
  rw [List.foldl_append,ih (u / 10) (by omega)]
  simp only [List.foldl_cons,List.foldl_nil]
  rw [UInt8.toNat_ofNat']
  omega
theorem localS_inj {i j:Nat} (h:localS i=localS j):i=j:=by
 unfold localS Lib.itoa at h
 simp only [List.cons.injEq,true_and] at h
 rw [if_neg (by omega),if_neg (by omega)] at h
 have:=congrArg (List.foldl (fun a b=>10*a+(b.toNat - 48)) 0) h
 rw [decVal,decVal] at this
 omega
theorem idx_local {n k:Nat} (h:k < n):indexS (localS k) ((List.range n).map localS) 0=k:=by
 rcases indexS_find (localS k) ((List.range n).map localS) 0 with ⟨_,h2⟩ | ⟨j,h1,h2⟩
 ·exact absurd (List.mem_map.2 ⟨k,List.mem_range.2 h,rfl⟩) h2
 ·have hj:j < n:=by have:=(List.getElem?_eq_some_iff.1 h1).1;simpa using this
  rw [List.getElem?_map,List.getElem?_range hj] at h1
  have:=localS_inj (by simpa using h1)
  rw [h2,this];simp
theorem loc_name {n:Str} (h:isName n=true):¬ isLoc n:=by
 rintro⟨i,rfl⟩
 have hc:cls (UInt8.toNat 36)≠1:=by decide
 unfold localS isName at h
 simp only [Bool.and_eq_true,decide_eq_true_eq] at h
 exact hc h.1.1
theorem freshR_ok {p:Prog}:∀ {l pre:List Formal},freshR p pre l=none→∀ (i:Nat)(f:Formal),l[i]? = some f→kindOf p f.name=0∧f.name ∉ fnames pre∧f.name ∉ fnames (l.take i)
 | [],_,_=>by simp
 | x::l,pre,h=>by
  intro i f hf
  rw [freshR] at h
  split at h
  ·cases h
  ·rename_i hn
   obtain⟨h1,h2⟩:=not_or.1 hn
   cases i with
   | zero=>simp only [List.getElem?_cons_zero,Option.some.injEq] at hf;subst hf;exact⟨Decidable.byContradiction h1,h2,by simp [fnames]⟩
   | succ i =>
    obtain⟨g1,g2,g3⟩:=freshR_ok h i f (by simpa using hf)
    simp only [fnames,List.map_append,List.mem_append,not_or,List.map_cons,List.map_nil,List.mem_singleton] at g2
    refine⟨g1,g2.1,?_⟩
    simp only [List.take_succ_cons,fnames,List.map_cons,List.mem_cons,not_or]
    exact⟨g2.2,g3⟩
theorem boundR_ok {p:Prog} {all:List Formal}:∀ {l:List Formal},boundR p all l=none→∀ f,f∈l→chk p all f.bound=none∧isIface p all f.bound=true
 | [],_=>by simp
 | x::l,h=>by
  rw [boundR] at h
  intro f hf
  split at h
  ·cases h
  ·rename_i hc
   split at h
   ·rename_i hi
    rcases List.mem_cons.1 hf with rfl | hf
    ·exact⟨hc,hi⟩
    ·exact boundR_ok h f hf
   ·cases h
theorem formalsR_ok {p:Prog} {env l:List Formal} (h:formalsR p env l=none):(∀ (i:Nat)(f:Formal),l[i]? = some f→kindOf p f.name=0∧f.name ∉ fnames env∧f.name ∉ fnames (l.take i))∧∀ f,f∈l→chk p (env++l) f.bound=none∧isIface p (env++l) f.bound=true:=by
 unfold formalsR at h
 split at h
 ·cases h
 ·rename_i hf
  exact⟨freshR_ok hf,boundR_ok h⟩
theorem parR_ok {p:Prog} {env:List Formal}:∀ {l:List Param} {pre:List Str},parR p env pre l=none→∀ f,f∈l→chk p env f.type=none
 | [],_,_=>by simp
 | x::l,pre,h=>by
  rw [parR] at h
  intro f hf
  split at h
  ·cases h
  ·split at h
   ·cases h
   ·rename_i hc
    rcases List.mem_cons.1 hf with rfl | hf
    ·exact hc
    ·exact parR_ok h f hf
theorem sigR_ok {p:Prog} {env:List Formal} {s:Sig} (h:sigR p env s=none):formalsR p env s.formals=none∧(∀ f,f∈s.params→chk p (env++s.formals) f.type=none)∧chk p (env++s.formals) s.result=none:=by
 unfold sigR at h
 split at h
 ·cases h
 ·rename_i hf
  split at h
  ·cases h
  ·rename_i hp
   exact⟨hf,parR_ok hp,h⟩
theorem sigsR_ok {p:Prog} {env:List Formal}:∀ {l:List Sig} {pre:List Str},sigsR p env pre l=none→∀ s,s∈l→sigR p env s=none
 | [],_,_=>by simp
 | x::l,pre,h=>by
  rw [sigsR] at h
  intro s hs
  split at h
  ·cases h
  ·split at h
   ·cases h
   ·rename_i hc
    rcases List.mem_cons.1 hs with rfl | hs
    ·exact hc
    ·exact sigsR_ok h s hs
theorem varsR_ok {p:Prog}:∀ {l pre:List Str},varsR p pre l=false→∀ (i:Nat)(v:Str),l[i]? = some v→kindOf p v=0∧v ∉ pre∧v ∉ l.take i
 | [],_,_=>by simp
 | x::l,pre,h=>by
  intro i f hf
  rw [varsR,Bool.or_eq_false_iff,decide_eq_false_iff_not] at h
  obtain⟨h1,h2⟩:=not_or.1 h.1
  cases i with
  | zero=>simp only [List.getElem?_cons_zero,Option.some.injEq] at hf;subst hf;exact⟨Decidable.byContradiction h1,h2,by simp⟩
  | succ i =>
   obtain⟨g1,g2,g3⟩:=varsR_ok h.2 i f (by simpa using hf)
   simp only [List.mem_append,not_or,List.mem_singleton] at g2
   refine⟨g1,g2.1,?_⟩
   simp only [List.take_succ_cons,List.mem_cons,not_or]
   exact⟨g2.2,g3⟩
def HW (p:Prog):Prop:=∀ (i:Nat)(d:Decl),p.decls[i]? = some d→headR p i d=none
theorem declT_get {p:Prog} {x:Str} {d:Decl} (h:declT p x=some d):(d.kind=1∨d.kind=2)∧d.name=x∧d∈p.decls:=by
 unfold declT at h
 have h1:=List.find?_some h
 have h2:=List.mem_of_find?_eq_some h
 unfold Decl.isT at h1
 simp only [Bool.and_eq_true,Bool.or_eq_true,decide_eq_true_eq] at h1
 exact⟨h1.1,h1.2,h2⟩
theorem decl_head {p:Prog} (hw:HW p) {x:Str} {d:Decl} (h:declT p x=some d):formalsR p [] d.formals=none∧(d.kind=1→∀ f,f∈d.fields→chk p d.formals f.type=none)∧(d.kind=2→∀ s,s∈d.sigs→sigR p d.formals s=none):=by
 obtain⟨hk,hn,hm⟩:=declT_get h
 obtain⟨i,hi⟩:=List.getElem?_of_mem hm
 have hh:=hw i d hi
 unfold headR at hh
 rw [if_pos hk] at hh
 unfold typedR at hh
 split at hh
 ·cases hh
 ·split at hh
  ·cases hh
  ·rename_i hf
   refine⟨hf,fun k1=>?_,fun k2=>?_⟩
   ·rw [if_pos k1] at hh
    split at hh
    ·cases hh
    ·rename_i hp;exact parR_ok hp
   ·rw [if_neg (by omega)] at hh
    exact sigsR_ok hh
theorem meth_head {p:Prog} (hw:HW p) {d:Decl} (hd:d∈p.decls)(hk:d.kind=3):kindOf p d.name=1∧d.vars.length=(formalsT p d.name).length∧varsR p [] d.vars=false∧sigR p (envR p d) d.sig=none:=by
 obtain⟨i,hi⟩:=List.getElem?_of_mem hd
 have hh:=hw i d hi
 unfold headR at hh
 rw [if_neg (by omega),if_pos hk] at hh
 unfold methodR at hh
 split at hh
 ·cases hh
 ·rename_i h1
  obtain⟨h1,h2⟩:=not_or.1 h1
  split at hh
  ·cases hh
  ·rename_i h3
   split at hh
   ·cases hh
   ·cases h4:sigR p (envR p d) d.sig with
    | some q=>rw [h4] at hh;cases hh
    | none=>exact⟨Decidable.byContradiction h1,Decidable.byContradiction h2,by simpa using h3,rfl⟩
theorem env_names {p:Prog} {d:Decl} (h:d.vars.length=(formalsT p d.name).length):fnames (envR p d)=d.vars:=by
 unfold envR fnames
 rw [List.map_map]
 exact List.map_snd_zip (by omega)
theorem right_decl {p:Prog} (hr:p.right=true) {d:Decl} (hd:d∈p.decls):isName d.name=true∧(∀ v,v∈d.vars→isName v=true)∧(d.kind=3→∀ f,f∈d.sig.formals→isName f.name=true):=by
 unfold Prog.right at hr
 rw [Bool.and_eq_true,List.all_eq_true] at hr
 have h:=hr.1 d hd
 unfold Decl.right at h
 simp only [Bool.and_eq_true,List.all_eq_true] at h
 refine⟨h.1,h.2.2.2.2.1,fun hk f hf=>?_⟩
 have h3:=h.2.2.2.2.2
 unfold Decl.right3 at h3
 rw [if_pos hk] at h3
 unfold Sig.right foRight at h3
 simp only [Bool.and_eq_true,List.all_eq_true] at h3
 exact (h3.2.2.1.1.1.2 f hf).1
theorem pw_of {p:Prog} (hr:p.right=true)(hw:HW p):PW p:=by
 refine⟨fun n hn=>?_,fun x d hd f hf=>?_,fun x d hd hk f hf=>?_,fun x d hd hk s hs=>?_,fun d hd hk=>?_⟩
 ·obtain⟨d,hd,_,_⟩:=decl_of_kind hn
  obtain⟨_,h2,h3⟩:=declT_get hd
  rw [← h2]
  exact loc_name (right_decl hr h3).1
 ·exact chk_Lf (by have:=((formalsR_ok (decl_head hw hd).1).2 f hf).1;simpa using this)
 ·exact chk_Lf ((decl_head hw hd).2.1 hk f hf)
 ·obtain⟨h1,h2,h3⟩:=sigR_ok ((decl_head hw hd).2.2 hk s hs)
  have key:∀ t:Ty,chk p (d.formals++s.formals) t=none→t.Lf fun n=>n∈fnames s.formals∨(n∈fnames d.formals∨kindOf p n≠0):=fun t ht =>
   (chk_Lf ht).mono fun n hn=>by
    unfold fnames at hn ⊢
    rw [List.map_append,List.mem_append] at hn
    rcases hn with (h | h) | h
    ·exact .inr (.inl h)
    ·exact .inl h
    ·exact .inr (.inr h)
  exact⟨fun f hf=>key _ ((formalsR_ok h1).2 f hf).1,fun f hf=>key _ (h2 f hf),key _ h3⟩
 ·obtain⟨_,g2,_,g4⟩:=meth_head hw hd hk
  obtain⟨h1,h2,h3⟩:=sigR_ok g4
  have hen:=env_names g2
  have key:∀ t:Ty,chk p (envR p d++d.sig.formals) t=none→t.Lf fun n=>n∈fnames d.sig.formals∨(n∈d.vars∨kindOf p n≠0):=fun t ht =>
   (chk_Lf ht).mono fun n hn=>by
    rw [← hen]
    unfold fnames at hn ⊢
    rw [List.map_append,List.mem_append] at hn
    rcases hn with (h | h) | h
    ·exact .inr (.inl h)
    ·exact .inl h
    ·exact .inr (.inr h)
  exact⟨fun f hf=>key _ ((formalsR_ok h1).2 f hf).1,fun f hf=>key _ (h2 f hf),key _ h3⟩
theorem inst_comp {F:List Str} {vars locs:List Str} {A B:List Ty} {n:Nat} {K:Str→Prop} (hF:F.length=n)(hB:B.length=n)(hA:vars.length=A.length)(hlocs:locs=(List.range n).map localS)
  (hd:∀ m,m∈vars→m ∉ F) (hv:∀ m,m∈vars→¬ isLoc m) (hK:∀ m,K m→¬ isLoc m) (hc:∀ u,u∈A→u.Lf fun n=>¬ isLoc n) (b:Ty) (hb:b.Lf fun m=>m∈F∨(m∈vars∨K m)) :
  ((b.subst F (localTs n)).subst vars A).subst locs B=b.subst (vars++F) (A++B):=by
 have hloc:∀ m,m∈locs→isLoc m:=fun m hm=>by
  rw [hlocs] at hm
  obtain⟨i,_,rfl⟩:=List.mem_map.1 hm
  exact⟨i,rfl⟩
 induction b using Ty.induct with | _ b ih=>?_
 by_cases ha:b.args=[]
 ·have e0:∀ v a,lookN v a b.name=none→b.subst v a=b:=fun v a hh=>by
   rw [subst_node fun _=>hh,ha];cases b;simp only [Ty.args] at ha;subst ha;rfl
  by_cases h1:b.name∈vars
  ·have h2:=hd _ h1
   obtain⟨k,u,_,_,g3,g4⟩:=lookN_in h1 (args:=A) (by omega)
   have hul:=hc u (List.mem_of_getElem? g3)
   rw [e0 F _ (lookN_out h2),subst_leaf ha g4,subst_leaf (vars:=vars++F) (u:=u) ha (by rw [lookN_append hA,if_pos h1];exact g4),subst_id]
   exact .of (fun h hm=>hul.name h (hloc _ hm)) fun x hx=>(hul.arg x hx).mono fun m hm hmm=>hm (hloc _ hmm)
  ·by_cases h2:b.name∈F
   ·obtain⟨k,u,g1,g2,g3,g4⟩:=lookN_in h2 (args:=localTs n) (by simp [localTs,hF])
    have hk:k < n:=by have:=(List.getElem?_eq_some_iff.1 g3).1;simpa [localTs] using this
    have hu:u=localT k:=by
     unfold localTs at g3
     rw [List.getElem?_map,List.getElem?_range hk] at g3;simpa using g3.symm
    subst hu
    obtain⟨k',w,k1,k2,k3,k4⟩:=lookN_in h2 (args:=B) (by omega)
    have hkk:k'=k:=by omega
    subst hkk
    rw [subst_leaf ha g4]
    show Ty.subst locs B (Ty.subst vars A (.mk (localS k') [] b.pos))=_
    have hlw:lookN locs B (localS k')=some w:=by
     unfold lookN
     rw [hlocs,idx_local hk,if_pos (by omega),Int.toNat_natCast]
     exact k3
    rw [subst_node (t:=.mk (localS k') [] b.pos) fun _=>lookN_out fun hh=>hv _ hh ⟨k',rfl⟩]
    show Ty.subst locs B (.mk (localS k') [] b.pos)=_
    rw [subst_leaf (t:=.mk (localS k') [] b.pos) (u:=w) rfl hlw,subst_leaf (vars:=vars++F) (u:=w) ha (by rw [lookN_append hA,if_neg h1];exact k4)]
    rfl
   ·have h3:K b.name:=by
     rcases hb.name ha with h | h | h
     ·exact absurd h h2
     ·exact absurd h h1
     ·exact h
    rw [e0 F _ (lookN_out h2),e0 vars _ (lookN_out h1),e0 locs _ (lookN_out fun hh=>hK _ h3 (hloc _ hh)),e0 (vars++F) _ (by rw [lookN_append hA,if_neg h1,lookN_out h2])]
 ·rw [subst_node fun h=>absurd h ha,subst_node (t:=.mk _ _ _) fun h=>absurd h (by simpa [mkA] using ha),subst_node (t:=.mk _ _ _) fun h=>absurd h (by simpa [mkA] using ha),subst_node (t:=b) fun h=>absurd h ha]
  simp only [mkA,mkN,mkQ,List.map_map]
  congr 1
  exact List.map_congr_left fun u hu=>ih u hu (hb.arg u hu)
abbrev ctx0 (p:Prog):TCtx:=⟨p,false,[],[]⟩
theorem setU_meth {p:Prog} {x:Ty} {s:Sig} (hx:instB p x 1=true)(hs:s∈setU p [] x):∃ d,d∈p.decls∧d.kind=3∧d.name=x.name∧d.vars.length=x.args.length∧s=d.sig.canon.subst d.vars x.args∧methD p x s.name=some d:=by
 unfold setU at hs
 have hb:boundV [] x=none:=by unfold boundV findV;split <;> simp [idxF]
 rw [hb] at hs
 simp only [Option.getD_none,Option.isSome_none,Bool.false_eq_true,if_false] at hs
 have h2:¬ instB p x 2=true:=fun h=>by have:=(inst_kind h).1;have:=(inst_kind hx).1;omega
 rw [if_neg h2] at hs
 unfold methL at hs
 rw [List.mem_map] at hs
 obtain⟨⟨d,i⟩,hd,rfl⟩:=hs
 rw [List.mem_filter] at hd
 have hm:=hd.2
 unfold methB at hm
 simp only [Bool.and_eq_true,decide_eq_true_eq] at hm
 obtain⟨⟨hk,hn⟩,hmp⟩:=hm
 have hdi:p.decls[i]? = some d:=by
  have:=hd.1
  rw [List.take_length] at this
  obtain⟨_,h2,h3⟩:=List.mem_zipIdx this
  simp only [Nat.sub_zero] at h3
  rw [h3];exact List.getElem?_eq_getElem _
 have hfi:methI p x.name d.sig.name=(i:Int)∧d.vars.length=x.args.length:=by
  unfold methP at hmp
  rw [if_pos hx] at hmp
  split at hmp
  ·rename_i d' hd'
   split at hmp
   ·rename_i hc
    rw [hmp,Int.toNat_natCast,hdi] at hd'
    cases hd'
    exact⟨hmp,hc.2⟩
   ·omega
  ·omega
 refine⟨d,List.mem_of_getElem? hdi,hk,hn,hfi.2,rfl,?_⟩
 show methD p x d.sig.name=some d
 unfold methD
 rw [if_pos hx]
 have hf:p.decls.find? (keyM x.name d.sig.name)=some d:=by
  unfold methI idxF at hfi
  cases h:p.decls.findIdx? (keyM x.name d.sig.name) with
  | none=>rw [h] at hfi;have:=hfi.1;simp only at this;omega
  | some j =>
   rw [h] at hfi
   have hj:j=i:=by have:=hfi.1;simp only at this;omega
   subst hj
   obtain⟨h1,h2,h3⟩:=List.findIdx?_eq_some_iff_getElem.1 h
   have hdj:p.decls[j]=d:=by rw [List.getElem?_eq_getElem h1] at hdi;simpa using hdi
   rw [List.find?_eq_some_iff_getElem]
   refine⟨by rw [hdj] at h2;exact h2,j,h1,hdj,fun k hk=>?_⟩
   have:=h3 k hk;simpa using this
 rw [hf]
 simp only [hfi.2,if_true]
theorem nodup_idx {l:List Str} (h:∀ (i:Nat)(v:Str),l[i]? = some v→v ∉ l.take i) {i:Nat} {v:Str} (hi:l[i]? = some v):indexS v l 0=i:=by
 have:=idxF_some (p:=fun x:Str=>decide (x=v)) hi (by simp) fun y hy=>by
  simp only [decide_eq_false_iff_not];rintro rfl;exact h i _ hi hy
 rw [← this,idx_names (fun x:Str=>x) v l,List.map_id']
theorem lookN_idx {vars:List Str} {args:List Ty} {n:Str} {k:Nat} {u:Ty} (h:indexS n vars 0=k)(hu:args[k]? = some u):lookN vars args n=some u:=by
 unfold lookN
 rw [h,if_pos ⟨by omega,by have:=(List.getElem?_eq_some_iff.1 hu).1;omega⟩,Int.toNat_natCast];exact hu
section
variable {p:Prog}
theorem sb_nil (p:Prog):Sb p [] [] [] []:=⟨rfl,rfl,by simp,by simp [fnames],by simp,by simp,by simp⟩
theorem vars_subst {p:Prog} {d:Decl} (hvd:∀ (i:Nat)(v:Str),d.vars[i]? = some v→v ∉ d.vars.take i) {F:List Str} {A B:List Ty} (hA:d.vars.length=A.length):((varTs d.vars).map (Ty.subst (d.vars++F) (A++B))).map Ty.er=A.map Ty.er:=by
 refine List.ext_getElem? fun i=>?_
 simp only [varTs,List.map_map,List.getElem?_map]
 cases hv:d.vars[i]? with
 | none =>
  have:A[i]? = none:=by rw [List.getElem?_eq_none_iff] at hv ⊢;omega
  rw [this];rfl
 | some v =>
  have hi:=(List.getElem?_eq_some_iff.1 hv).1
  have hu:A[i]? = some (A[i]'(by omega)):=List.getElem?_eq_getElem (by omega)
  rw [hu]
  simp only [Option.map_some,Function.comp]
  congr 1
  rw [subst_leaf (t:=.mk v [] 0) (u:=A[i]'(by omega)) rfl]
  ·exact er_pos
  ·rw [mkN,lookN_append hA,if_pos (List.mem_of_getElem? hv)]
   exact lookN_idx (nodup_idx hvd hv) hu
structure Called (p:Prog)(d:Decl)(x:Ty)(targs:List Ty):Prop where
 sb:Sb p (envR p d++d.sig.formals) [] (d.vars++fnames d.sig.formals) (x.args++targs)
 wf:∀ u,u∈x.args++targs→chk p [] u=none
 self:((selfT d).subst (d.vars++fnames d.sig.formals) (x.args++targs)).er=x.er
 inst:∀ b:Ty,chk p (envR p d++d.sig.formals) b=none→((b.subst (fnames d.sig.formals) (localTs d.sig.formals.length)).subst d.vars x.args).subst (fnames d.sig.canon.formals) targs=b.subst (d.vars++fnames d.sig.formals) (x.args++targs)
theorem called (hr:p.right=true)(hw:HW p) {d:Decl} (hd:d∈p.decls)(hk:d.kind=3) {x:Ty} (hx:chk p [] x=none)(hi:instB p x 1=true)(hn:d.name=x.name) {targs:List Ty} (htl:d.sig.formals.length=targs.length)
  (ht:∀ t,t∈targs→chk p [] t=none) (hb:boundsI p [] (d.sig.canon.subst d.vars x.args).formals targs < 0):Called p d x targs:=by
 have hp:=pw_of hr hw
 obtain⟨m1,m2,m3,m4⟩:=meth_head hw hd hk
 obtain⟨s1,s2,s3⟩:=sigR_ok m4
 obtain⟨f1,f2⟩:=formalsR_ok s1
 have hen:=env_names m2
 obtain⟨x1,x2⟩:=inst_kind hi
 have hvl:d.vars.length=x.args.length:=by rw [m2,hn,x2]
 have hv:=varsR_ok m3
 obtain⟨r1,r2,r3⟩:=right_decl hr hd
 have hxa:(∀ u,u∈x.args→chk p [] u=none)∧boundsI p [] (formalsT p x.name) x.args < 0:=by
  rcases chk_iff.1 hx with h | ⟨_,_,h3,h4⟩
  ·have:boundV [] x=none:=by unfold boundV findV;split <;> simp [idxF]
   rw [this] at h;cases h
  ·exact⟨h3,h4⟩
 have hwf:∀ u,u∈x.args++targs→chk p [] u=none:=fun u hu=>(List.mem_append.1 hu).elim (hxa.1 u) (ht u)
 have hcl:∀ u,u∈x.args++targs→u.Lf fun n=>¬ isLoc n:=fun u hu=>(chk_Lf (hwf u hu)).mono fun n hn=>hn.elim (by simp [fnames]) (hp.name n)
 have hfl:(fnames d.sig.formals).length=d.sig.formals.length:=by simp [fnames]
 have hdis:∀ m,m∈d.vars→m ∉ fnames d.sig.formals:=fun m hm hf=>by
  obtain⟨f,hf1,hf2⟩:=List.mem_map.1 hf
  obtain⟨i,hi⟩:=List.getElem?_of_mem hf1
  exact (f1 i f hi).2.1 (by rw [hen,hf2];exact hm)
 have hlocs:fnames d.sig.canon.formals=(List.range d.sig.formals.length).map localS:=by
  rw [(canon_Cn d.sig).fs];simp [Sig.canon,canF]
 have hinst:∀ b:Ty,chk p (envR p d++d.sig.formals) b=none→((b.subst (fnames d.sig.formals) (localTs d.sig.formals.length)).subst d.vars x.args).subst (fnames d.sig.canon.formals) targs=b.subst (d.vars++fnames d.sig.formals) (x.args++targs):=fun b hb =>
  inst_comp (K:=fun n=>kindOf p n≠0) hfl htl.symm hvl hlocs hdis (fun m hm=>loc_name (r2 m hm)) hp.name (fun u hu=>hcl u (List.mem_append_left _ hu)) b
   ((chk_Lf hb).mono fun n hn=>by
    unfold fnames at hn
    rw [List.map_append,List.mem_append] at hn
    rcases hn with (h | h) | h
    ·exact .inr (.inl (by rw [← hen];exact h))
    ·exact .inl h
    ·exact .inr (.inr h))
 have hnames:fnames (envR p d++d.sig.formals)=d.vars++fnames d.sig.formals:=by
  rw [← hen];unfold fnames;rw [List.map_append]
 have hkk:kindOf p d.name≠0:=by omega
 obtain⟨dt,hdt,hdk,hdf⟩:=decl_of_kind hkk
 obtain⟨t1,t2⟩:=formalsR_ok (decl_head hw hdt).1
 have hvs:=vars_subst (p:=p) (d:=d) (fun i v h=>(hv i v h).2.2) (F:=fnames d.sig.formals) (A:=x.args) (B:=targs) hvl
 have hfresh:∀ n,n∈d.vars++fnames d.sig.formals→kindOf p n=0∧¬ isLoc n:=fun n hn=>by
  rcases List.mem_append.1 hn with h | h
  ·obtain⟨i,hi⟩:=List.getElem?_of_mem h
   exact⟨(hv i n hi).1,loc_name (r2 n h)⟩
  ·obtain⟨f,hf1,rfl⟩:=List.mem_map.1 h
   obtain⟨i,hi⟩:=List.getElem?_of_mem hf1
   exact⟨(f1 i f hi).1,loc_name (r3 hk f hf1)⟩
 have henvf:∀ n,n∈fnames (envR p d++d.sig.formals)→kindOf p n=0:=fun n hn=>(hfresh n (by rw [← hnames];exact hn)).1
 have hbnd:∀ (l:Formal),l∈dt.formals→∀ a:List Ty,(l.bound.subst (fnames dt.formals) a).name=l.bound.name∧(l.bound.subst (fnames dt.formals) a).args.length=l.bound.args.length∧instB p l.bound 2=true:=by
  intro l hl a
  have hif:=(t2 l hl).2
  simp only [List.nil_append] at hif
  unfold isIface at hif
  rw [Bool.and_eq_true] at hif
  have hno:boundV dt.formals l.bound=none:=by
   cases hh:boundV dt.formals l.bound with
   | none=>rfl
   | some y=>rw [hh] at hif;simp at hif
  have:l.bound.subst (fnames dt.formals) a=.mk l.bound.name (l.bound.args.map (Ty.subst (fnames dt.formals) a)) l.bound.pos:=subst_node fun ha=>lookN_out (boundV_none hno ha)
  rw [this]
  exact⟨rfl,by simp [mkA],hif.1⟩
 refine⟨⟨hnames.symm,by rw [List.length_append,List.length_append,hfl,hvl,htl],hfresh,by simp [fnames],hcl,fun f hf=>?_,fun i f u hf hu=>?_⟩,hwf,?_,hinst⟩
 ·rcases List.mem_append.1 hf with hf | hf
  ·unfold envR at hf
   obtain⟨⟨l,w⟩,hz,rfl⟩:=List.mem_map.1 hf
   have hl:l∈dt.formals:=by rw [← hdf];exact (List.of_mem_zip hz).1
   obtain⟨g1,g2,g3⟩:=hbnd l hl (varTs d.vars)
   unfold isIface
   simp only
   rw [hdf,Bool.and_eq_true]
   refine⟨inst_of g3 g1 g2,?_⟩
   rw [boundV_kind henvf (by rw [g1,(inst_kind g3).1];decide)];rfl
  ·exact (f2 f hf).2
 ·by_cases hlt:i < d.vars.length
  ·have hel:(envR p d).length=d.vars.length:=by have:=congrArg List.length hen;simpa [fnames] using this
   rw [List.getElem?_append_left (by omega)] at hf hu
   unfold envR at hf
   rw [List.getElem?_map,Option.map_eq_some_iff] at hf
   obtain⟨⟨l,w⟩,hz,rfl⟩:=hf
   rw [List.getElem?_zip_eq_some] at hz
   have hb4:=bounds_iff.1 hxa.2 i l u (by rw [← hn];exact hz.1) hu
   refine implB_trans hb4 (impl_of_er ?_)
   simp only
   rw [← hn,hdf]
   have hl:l∈dt.formals:=by rw [← hdf];exact List.mem_of_getElem? hz.1
   rw [subst_comp _ _ _ _ (by rw [← hdf];simp [fnames,varTs];omega) _ ((hp.bnd _ dt hdt l hl).mono fun n hn=>hn.imp_right fun h hm=>h (hfresh n hm).1),subst_er,subst_er,hvs]
  ·have hel:(envR p d).length=d.vars.length:=by have:=congrArg List.length hen;simpa [fnames] using this
   rw [List.getElem?_append_right (by omega)] at hf hu
   rw [hel] at hf
   rw [← hvl] at hu
   have hfm:=List.mem_of_getElem? hf
   have hcf:(d.sig.canon.subst d.vars x.args).formals[i - d.vars.length]? = some ⟨localS (i - d.vars.length),(f.bound.subst (fnames d.sig.formals) (localTs d.sig.formals.length)).subst d.vars x.args,f.pos⟩:=by
    have hlt2:=(List.getElem?_eq_some_iff.1 hf).1
    simp only [Sig.subst,Sig.canon,canF]
    rw [List.getElem?_map,List.getElem?_mapIdx,hf]
    simp only [Option.map_some,Formal.subst,if_pos hlt2]
   have:=bounds_iff.1 hb _ _ u hcf hu
   simp only at this
   have hfn:fnames (d.sig.canon.subst d.vars x.args).formals=fnames d.sig.canon.formals:=by simp only [Sig.subst,fnames,List.map_map];rfl
   rw [hfn,hinst _ (f2 f hfm).1] at this
   exact this
 ·rw [subst_look]
  have hno:(if (selfT d).args=[] then lookN (d.vars++fnames d.sig.formals) (x.args++targs) (selfT d).name else none)=none:=by
   split
   ·refine lookN_out fun hm=>?_
    have:=(hfresh _ hm).1
    exact hkk this
   ·rfl
  rw [hno]
  simp only [selfT,mkA,mkN,mkQ]
  rw [er_eq,er_eq x]
  simp only [mkN,mkA]
  rw [hvs,hn]
theorem lit_typed {e:Ex} {t:Ty} (h3:e.kind=3)(h:typeI (ctx0 p) e=(t,none)):chk p [] e.type=none∧instB p e.type 1=true∧KidsOK (ctx0 p) ((fieldsT p e.type).map (·.type)) e.kids∧t=e.type:=by
 rcases typed_iff.1 h with ⟨h,_⟩ | ⟨_,h1,h2,h3,h4⟩ | ⟨_,_,_,_,_,h | h | h⟩
 ·omega
 ·exact⟨h1,(structT_iff.1 h2).1,h3,h4⟩
 all_goals omega
theorem keeps (hr:p.right=true)(hw:HW p)(hbd:∀ d,d∈p.decls→(bodyT p true d).bad=false):∀ (e:Ex)(t:Ty),typeI (ctx0 p) e=(t,none)→(stepE p e).2=1→∃ t',typeI (ctx0 p) (stepE p e).1=(t',none)∧implB p [] t' t=true:=by
 have hp:=pw_of hr hw
 intro e
 induction e using Ex.induct with | _ e ih=>?_
 intro t ht ho
 rw [stepE_eq] at ho ⊢
 rcases stepL_cases p e.kids with ⟨ha,hb⟩ | ⟨i,k,ha,hi,hv,hlt,hb⟩
 ·rw [hb] at ho ⊢
  simp only at ho ⊢
  have hall:∀ x,x∈e.kids→isVal x=true:=fun x hx=>by
   rcases idxF_cases (fun k=>!isVal k) e.kids with ⟨_,h'⟩ | ⟨j,y,h',_⟩
   ·have:=h' x hx;simpa using this
   ·omega
  unfold redexE at ho ⊢
  by_cases h3:e.kind=3
  ·rw [if_pos h3] at ho;simp at ho
  rw [if_neg h3] at ho ⊢
  rcases typed_iff.1 ht with ⟨h1,k,f,_,h2,_⟩ | ⟨h,_⟩ | ⟨v,vs,x,hks,hx,hcase⟩
  ·simp at h2
  ·omega
  rw [hks] at ho ⊢
  simp only [List.getElem?_cons_zero] at ho ⊢
  have hv3:v.kind=3:=by
   have:=hall v (by rw [hks];simp)
   rw [isVal_eq] at this;simp only [Bool.and_eq_true,decide_eq_true_eq] at this;exact this.2
  obtain⟨l1,l2,l3,rfl⟩:=lit_typed hv3 hx
  rcases hcase with ⟨k2,s,hs,hK,rfl⟩ | ⟨k4,_,k,f,hf1,hf2,rfl⟩ | ⟨k5,hc,_,rfl⟩
  ·rw [if_pos k2] at ho ⊢
   obtain⟨s1,s2,s3,s4,s5,s6⟩:=sigT_iff.1 hs
   obtain⟨d,d1,d2,d3,d4,rfl,d6⟩:=setU_meth l2 s1
   have hcl:d.sig.formals.length=e.targs.length:=by rw [← s3];simp [Sig.subst,Sig.canon,canF]
   have hpl:d.sig.params.length+1=e.kids.length:=by rw [s6];simp [Sig.subst,Sig.canon,canP]
   have hcall:=called hr hw d1 d2 l1 l2 d3 hcl s4 s5
   unfold callE
   rw [← s2,d6]
   simp only
   rw [if_pos ⟨hcl,hpl⟩]
   simp only
   obtain⟨_,_,_,m4⟩:=meth_head hw d1 d2
   obtain⟨_,c2,c3⟩:=sigR_ok m4
   have hbody:=hbd d d1
   unfold bodyT at hbody
   rw [if_pos d2] at hbody
   unfold fitsT at hbody
   have hbt:(typeE (scopeT p true d) d.body).2.bad=false∧implB p (envR p d++d.sig.formals) (typeE (scopeT p true d) d.body).1 d.sig.result=true:=by
    split at hbody
    ·cases hbody
    ·rename_i hh
     refine⟨hbody,?_⟩
     cases hi:implB p (envR p d++d.sig.formals) (typeE (scopeT p true d) d.body).1 d.sig.result with
     | true=>rfl
     | false=>exact absurd ⟨hbody,hi⟩ hh
   have hti:=typed_of hbt.1
   have hfn:fnames (d.sig.canon.subst d.vars v.type.args).formals=fnames d.sig.canon.formals:=by simp only [Sig.subst,fnames,List.map_map];rfl
   obtain⟨t',g1,g2⟩:=typed_sb hp hcall.sb hcall.wf (st:=true) (vars:=⟨d.recv,selfT d,0⟩::d.sig.params) (vars':=[]) (vals:=e.kids) (by rw [← hpl];simp) (by
    intro i f u hf hu
    cases i with
    | zero =>
     simp only [List.getElem?_cons_zero,Option.some.injEq] at hf
     rw [hks] at hu
     simp only [List.getElem?_cons_zero,Option.some.injEq] at hu
     subst hf;subst hu
     exact⟨v.type,hx,impl_of_er hcall.self.symm⟩
    | succ i =>
     rw [List.getElem?_cons_succ] at hf
     rw [hks,List.getElem?_cons_succ] at hu
     have hpi:(parTs (d.sig.canon.subst d.vars v.type.args) e.targs)[i]? = some (f.type.subst (d.vars++fnames d.sig.formals) (v.type.args++e.targs)):=by
      have hlt2:=(List.getElem?_eq_some_iff.1 hf).1
      unfold parTs
      rw [hfn]
      simp only [Sig.subst,Sig.canon,canP]
      rw [List.getElem?_map,List.getElem?_map,List.getElem?_mapIdx,hf]
      simp only [Option.map_some,Param.subst]
      rw [← hcall.inst _ (c2 f (List.mem_of_getElem? hf))]
      rfl
     exact hK.2 i _ u hpi hu) d.body _ hti
   refine⟨t',?_,?_⟩
   ·unfold calledE
    exact g1
   ·refine implB_trans g2 (implB_trans (impl_sb hp hcall.sb hbt.2) (impl_of_er ?_))
    rw [← hcall.inst _ c3,hfn];rfl
  ·rw [if_neg (by omega),if_pos k4] at ho ⊢
   unfold selE at ho ⊢
   simp only at hf1 hf2
   have hf1':idxF (fun f:Param=>decide (f.name=e.name)) (fieldsT p v.type)=k:=hf1
   rw [hf1'] at ho ⊢
   have hkl:k < v.kids.length:=by
    have h1:=(List.getElem?_eq_some_iff.1 hf2).1
    have h2:=l3.1
    rw [List.length_map] at h2;omega
   rw [if_pos ⟨l2,by omega,by omega⟩,Int.toNat_natCast,List.getElem?_eq_getElem hkl]
   simp only [Option.getD_some]
   exact l3.2 k f.type _ (by rw [List.getElem?_map,hf2];rfl) (List.getElem?_eq_getElem hkl)
  ·rw [if_neg (by omega),if_neg (by omega),if_pos k5] at ho ⊢
   unfold asrtE at ho ⊢
   split at ho
   ·rename_i hi
    rw [if_pos hi]
    exact⟨v.type,hx,hi⟩
   ·simp at ho
 ·rw [hb] at ho ⊢
  simp only at ho ⊢
  have hko:(stepE p k).2=1:=by
   split at ho
   ·assumption
   ·rename_i hh;exact absurd ho hh
  rw [if_pos hko]
  simp only
  have hkm:=List.mem_of_getElem? hi
  have hil:=(List.getElem?_eq_some_iff.1 hi).1
  by_cases k1:e.kind=1
  ·rcases typed_iff.1 ht with ⟨h1,k,f,_,h2,_⟩ | ⟨h,_⟩ | ⟨_,_,_,_,_,h | h | h⟩
   ·simp at h2
   all_goals omega
  obtain⟨t',g1,g2⟩:=node_sb hp (sb_nil p) (by simp) (st:=false) (vars:=[]) (vars':=[]) (e:=e) (e':=e.kidded (e.kids.set i (stepE p k).1)) (t:=t) rfl rfl (by rw [subst_nil];rfl) (by
    rw [List.map_congr_left (g:=id) fun u _=>subst_nil u,List.map_id];rfl) (by simp [Ex.kidded,Ex.kids]) k1 ht (by
    intro j q q' K h1 h2 h3
    have h2:(e.kids.set i (stepE p k).1)[j]? = some q':=h2
    rw [subst_nil]
    by_cases hj:i=j
    ·subst hj
     rw [hi] at h1
     cases h1
     rw [List.getElem?_set_self hil] at h2
     cases h2
     exact ih k hkm K h3 hko
    ·rw [List.getElem?_set_ne hj] at h2
     have h1':e.kids[j]? = some q:=h1
     have:q=q':=by
      have h2':e.kids[j]? = some q':=h2
      rw [h1'] at h2';simpa using h2'
     subst this
     exact⟨K,h3,implB_refl _ _ _⟩)
  exact⟨t',g1,by rw [subst_nil] at g2;exact g2⟩
end
end Go.Abs
/- no expression with a type is stuck -/
namespace Go.Abs
set_option linter.unusedSimpArgs false
set_option linter.unusedVariables false
open Go Go.Proofs
set_option maxRecDepth 100000
set_option maxHeartbeats 1000000
theorem kids_typed {p:Prog} {e:Ex} {t:Ty} (h1:e.One)(ht:typeI (ctx0 p) e=(t,none)):∀ x,x∈e.kids→∃ K,typeI (ctx0 p) x=(K,none):=by
 have key:∀ (ws:List Ty) (es:List Ex),KidsOK (ctx0 p) ws es→∀ x,x∈es→∃ K,typeI (ctx0 p) x=(K,none):=fun ws es hK x hx=>by
  obtain⟨i,hi⟩:=List.getElem?_of_mem hx
  have hlt:i < ws.length:=by rw [hK.1];exact (List.getElem?_eq_some_iff.1 hi).1
  obtain⟨K,hk,_⟩:=hK.2 i _ x (List.getElem?_eq_getElem hlt) hi
  exact⟨K,hk⟩
 rcases typed_iff.1 ht with ⟨_,k,f,_,h2,_⟩ | ⟨_,_,_,hK,_⟩ | ⟨v,vs,x,hks,hx,hc⟩
 ·simp at h2
 ·exact key _ _ hK
 ·intro y hy
  rw [hks] at hy
  rcases List.mem_cons.1 hy with rfl | hy
  ·exact⟨x,hx⟩
  ·rcases hc with ⟨_,s,_,hK,_⟩ | ⟨k4,_⟩ | ⟨k5,_⟩
   ·exact key _ _ hK y hy
   ·have:=h1.out.1.2 (.inl k4);rw [hks] at this
    have:vs=[]:=by simpa using this
    rw [this] at hy;simp at hy
   ·have:=h1.out.1.2 (.inr k5);rw [hks] at this
    have:vs=[]:=by simpa using this
    rw [this] at hy;simp at hy
theorem progress (p:Prog):∀ (e:Ex)(t:Ty),e.One→typeI (ctx0 p) e=(t,none)→(stepE p e).2≠4∧((stepE p e).2=2↔isVal e=true):=by
 intro e
 induction e using Ex.induct with | _ e ih=>?_
 intro t h1 ht
 have hkt:=kids_typed h1 ht
 rw [stepE_eq]
 rcases stepL_cases p e.kids with ⟨ha,hb⟩ | ⟨i,k,ha,hi,hv,hlt,hb⟩
 ·rw [hb]
  simp only
  have hall:∀ x,x∈e.kids→isVal x=true:=fun x hx=>by
   rcases idxF_cases (fun k=>!isVal k) e.kids with ⟨_,h'⟩ | ⟨j,y,h',_⟩
   ·have:=h' x hx;simpa using this
   ·omega
  have hvl:isValL e.kids=true:=(isValL_iff _).2 hall
  unfold redexE
  rcases typed_iff.1 ht with ⟨_,k,f,_,h2,_⟩ | ⟨h3,_⟩ | ⟨v,vs,x,hks,hx,hc⟩
  ·simp at h2
  ·rw [if_pos h3]
   refine⟨by simp,?_⟩
   rw [isVal_eq,hvl];simp [h3]
  have hv3:v.kind=3:=by
   have:=hall v (by rw [hks];simp)
   rw [isVal_eq] at this;simp only [Bool.and_eq_true,decide_eq_true_eq] at this;exact this.2
  obtain⟨l1,l2,l3,rfl⟩:=lit_typed hv3 hx
  have hne:e.kind≠3:=by rcases hc with h | h | h <;> omega
  have hnv:isVal e=false:=by rw [isVal_eq,hvl];simp [hne]
  rw [if_neg hne,hks,hnv]
  simp only [List.getElem?_cons_zero,Bool.false_eq_true,iff_false]
  rcases hc with ⟨k2,s,hs,hK,rfl⟩ | ⟨k4,_,k,f,hf1,hf2,rfl⟩ | ⟨k5,hc,_,rfl⟩
  ·rw [if_pos k2]
   obtain⟨s1,s2,s3,s4,s5,s6⟩:=sigT_iff.1 hs
   obtain⟨d,d1,d2,d3,d4,rfl,d6⟩:=setU_meth l2 s1
   have hcl:d.sig.formals.length=e.targs.length:=by rw [← s3];simp [Sig.subst,Sig.canon,canF]
   have hpl:d.sig.params.length+1=e.kids.length:=by rw [s6];simp [Sig.subst,Sig.canon,canP]
   unfold callE
   rw [← s2,d6]
   simp only
   rw [if_pos ⟨hcl,hpl⟩]
   simp
  ·rw [if_neg (by omega),if_pos k4]
   unfold selE
   have hf1':idxF (fun f:Param=>decide (f.name=e.name)) (fieldsT p v.type)=k:=hf1
   have hkl:k < v.kids.length:=by
    have h1:=(List.getElem?_eq_some_iff.1 hf2).1
    have h2:=l3.1
    rw [List.length_map] at h2
    have h1:k < (fieldsT p v.type).length:=h1
    omega
   rw [hf1',if_pos ⟨l2,by omega,by omega⟩]
   simp
  ·rw [if_neg (by omega),if_neg (by omega),if_pos k5]
   unfold asrtE
   split <;> simp
 ·rw [hb]
  simp only
  have hkm:=List.mem_of_getElem? hi
  obtain⟨K,hK⟩:=hkt k hkm
  have hI:=ih k hkm K (h1.out.2 k hkm) hK
  have hnv:isVal e=false:=by
   rw [isVal_eq]
   cases hh:isValL e.kids with
   | false=>rfl
   | true=>rw [(isValL_iff _).1 hh k hkm] at hv;cases hv
  rw [hnv]
  rw [hv] at hI
  have h2:(stepE p k).2≠2:=fun h=>by have:=hI.2.1 h;cases this
  by_cases ho:(stepE p k).2=1
  ·rw [if_pos ho];simp
  ·rw [if_neg ho];simp only [Bool.false_eq_true,iff_false];exact⟨hI.1,h2⟩
end Go.Abs
/- what StepKeeps asks of a step, out of keeps -/
namespace Go.Abs
set_option linter.unusedSimpArgs false
set_option linter.unusedVariables false
open Go Go.Proofs
set_option maxRecDepth 100000
set_option maxHeartbeats 1000000
end Go.Abs
/- a program that is well typed, strictly or not, is never stuck, however many steps it makes -/
namespace Go.Abs
set_option linter.unusedSimpArgs false
set_option linter.unusedVariables false
open Go Go.Proofs
set_option maxRecDepth 100000
set_option maxHeartbeats 1000000
theorem lax_kids {c:TCtx} {ws:List Ty} {es:List Ex} (ih:∀ x,x∈es→∀ t,typeI c x=(t,none)→typeI { c with strict:=false } x=(t,none))(h:KidsOK c ws es):KidsOK { c with strict:=false } ws es :=
 ⟨h.1,fun i w k hw hk=>by
  obtain⟨K,h1,h2⟩:=h.2 i w k hw hk
  exact⟨K,ih k (List.mem_of_getElem? hk) K h1,h2⟩⟩
theorem lax (c:TCtx):∀ (e:Ex)(t:Ty),typeI c e=(t,none)→typeI { c with strict:=false } e=(t,none):=by
 intro e
 induction e using Ex.induct with | _ e ih=>?_
 intro t h
 refine typed_iff.2 ?_
 rcases typed_iff.1 h with h1 | ⟨h3,h4,h5,h6,h7⟩ | ⟨v,vs,x,hks,hx,hc⟩
 ·exact .inl h1
 ·exact .inr (.inl ⟨h3,h4,h5,lax_kids ih h6,h7⟩)
 ·have ih':∀ y,y∈v::vs→∀ t,typeI c y=(t,none)→typeI { c with strict:=false } y=(t,none):=fun y hy=>ih y (by rw [hks];exact hy)
  refine .inr (.inr ⟨v,vs,x,hks,ih' v (by simp) x hx,?_⟩)
  rcases hc with ⟨k2,s,hs,hK,ht⟩ | h4 | ⟨k5,h6,_,h7⟩
  ·exact .inl ⟨k2,s,hs,lax_kids (fun y hy=>ih' y (by simp [hy])) hK,ht⟩
  ·exact .inr (.inl h4)
  ·exact .inr (.inr ⟨k5,h6,(fun h=>by cases h),h7⟩)
theorem OneL_of:∀ l:List Ex,(∀ x,x∈l→x.One)→Ex.OneL l
 | [],_=>trivial
 | x::l,h=>by rw [Ex.OneL];exact⟨h x (by simp),OneL_of l fun y hy=>h y (by simp [hy])⟩
theorem Ex.One.of {e:Ex} (h:kidsOK e)(hk:∀ x,x∈e.kids→x.One):e.One:=by
 cases e with | mk k n t a ks q=>rw [Ex.One];exact⟨h,OneL_of ks hk⟩
theorem One_mapped {e:Ex} (f:Ex→Ex)(n:Str)(t:Ty)(a:List Ty)(q:Int)(h:e.One)(hf:∀ x,x∈e.kids→(f x).One):(Ex.mk e.kind n t a (e.kids.map f) q).One :=
 .of ⟨fun h1=>by show e.kids.map f=[];rw [h.out.1.1 h1];rfl,fun h4=>by show (e.kids.map f).length=1;rw [List.length_map];exact h.out.1.2 h4⟩ fun x hx=>by
  obtain⟨y,hy,rfl⟩:=List.mem_map.1 hx
  exact hf y hy
theorem Ex.One.subst (v:List Str)(a:List Ty):∀ {e:Ex},e.One→(e.subst v a).One:=by
 intro e
 induction e using Ex.induct with | _ e ih=>?_
 intro h
 rw [esubst_eq]
 exact One_mapped _ _ _ _ _ h fun y hy=>ih y hy (h.out.2 y hy)
theorem Ex.One.repl {names:List Str} {vals:List Ex} (hv:∀ x,x∈vals→x.One):∀ {e:Ex},e.One→(e.repl names vals).One:=by
 intro e
 induction e using Ex.induct with | _ e ih=>?_
 intro h
 rw [erepl_eq]
 have hk:(e.kidded (e.kids.map (Ex.repl names vals))).One:=One_mapped _ _ _ _ _ h fun y hy=>ih y hy (h.out.2 y hy)
 unfold replG
 split
 ·cases hg:vals[(indexS (e.kidded (e.kids.map (Ex.repl names vals))).name names 0).toNat]? with
  | none=>exact hk
  | some u=>exact hv u (List.mem_of_getElem? hg)
 ·exact hk
theorem methD_kind3 {p:Prog} {x:Ty} {m:Str} {d:Decl} (h:methD p x m=some d):d.kind=3:=by
 unfold methD at h
 split at h
 ·split at h
  ·rename_i hf
   split at h
   ·cases h
    have:=List.find?_some hf
    unfold keyM at this
    simp only [Bool.and_eq_true,decide_eq_true_eq] at this
    exact this.1.1
   ·cases h
  ·cases h
 ·cases h
theorem stepE_One {p:Prog} (hb:∀ d,d∈p.decls→d.kind=3→d.body.One):∀ {e:Ex},e.One→(stepE p e).1.One:=by
 intro e
 induction e using Ex.induct with | _ e ih=>?_
 intro he
 rw [stepE_eq]
 rcases stepL_cases p e.kids with ⟨_,hb'⟩ | ⟨i,k,_,hi,_,_,hb'⟩
 ·rw [hb']
  simp only
  unfold redexE
  split
  ·exact he
  ·split
   ·exact he
   ·rename_i v hv
    have hvs:=he.out.2 v (List.mem_of_getElem? hv)
    split
    ·unfold callE
     split
     ·exact he
     ·rename_i d hd
      split
      ·exact Ex.One.repl he.out.2 (Ex.One.subst _ _ (hb d (methD_mem hd) (methD_kind3 hd)))
      ·exact he
    split
    ·unfold selE
     split
     ·simp only
      cases hx:v.kids[(idxF (fun f:Param=>decide (f.name=e.name)) (fieldsT p v.type)).toNat]? with
      | none=>exact hvs
      | some x=>exact hvs.out.2 x (List.mem_of_getElem? hx)
     ·exact he
    split
    ·unfold asrtE
     split
     ·exact hvs
     ·exact he
    ·exact he
 ·rw [hb']
  simp only
  split
  ·have hkm:=List.mem_of_getElem? hi
   refine .of ⟨fun h1=>?_,fun h4=>?_⟩ fun u hu=>?_
   ·have:=he.out.1.1 h1
    rw [this] at hkm;cases hkm
   ·show (e.kids.set i _).length=1
    rw [List.length_set];exact he.out.1.2 h4
   ·rcases List.mem_or_eq_of_mem_set hu with hu | rfl
    ·exact he.out.2 u hu
    ·exact ih k hkm (he.out.2 k hkm)
  ·exact he
theorem right_bodies_One {p:Prog} (hr:p.right=true):(∀ d,d∈p.decls→d.kind=3→d.body.One)∧p.main.One:=by
 unfold Prog.right at hr
 simp only [Bool.and_eq_true,List.all_eq_true] at hr
 refine⟨fun d hd hk=>?_,Ex.right_One _ hr.2⟩
 have:=hr.1 d hd
 unfold Decl.right Decl.right3 at this
 rw [if_pos hk] at this
 simp only [Bool.and_eq_true] at this
 exact Ex.right_One _ this.2.2.2.2.2.2.2.2
theorem progL_main {p:Prog} {st:Bool}:∀ {l:List Decl} {i:Nat},(progL p st l i).bad=false→(typeE ⟨p,st,[],[]⟩ p.main).2.bad=false
 | [],_,h=>h
 | x::l,i,h=>by
  rw [progL] at h
  cases hh:headR p i x with
  | some q=>rw [hh] at h;cases h
  | none =>
   rw [hh] at h
   simp only at h
   split at h
   ·rename_i hb;rw [hb] at h;cases h
   ·exact progL_main h
theorem steps_typed {p:Prog} (hr:p.right=true)(hp:(progT p true).bad=false):∀ (n:Nat)(e:Ex)(t:Ty),e.One→typeI (ctx0 p) e=(t,none)→(stepsE p n e).2.2≠4:=by
 have hall:=fun k d hk=>progL_ok (l:=p.decls) (i:=0) hp k d hk
 have hw:HW p:=fun i d hd=>by have:=(hall i d hd).1;rwa [Nat.zero_add] at this
 have hb:∀ d,d∈p.decls→(bodyT p true d).bad=false:=fun d hd=>by
  obtain⟨i,hi⟩:=List.getElem?_of_mem hd
  exact (hall i d hi).2
 intro n
 induction n with
 | zero=>intro e t h1 ht;rw [stepsE];exact (progress p e t h1 ht).1
 | succ n ih =>
  intro e t h1 ht
  rw [stepsE]
  split
  ·rename_i ho
   obtain⟨t',h2,_⟩:=keeps hr hw hb e t ht ho
   exact ih _ t' (stepE_One (right_bodies_One hr).1 h1) h2
  ·exact (progress p e t h1 ht).1
theorem never_stuck {p:Prog} (hr:p.right=true)(hp:(progT p true).bad=false)(n:Nat):(stepsE p n p.main).2.2≠4:=by
 have ht:=typed_of (progL_main (l:=p.decls) (i:=0) hp)
 exact steps_typed hr hp n p.main _ (right_bodies_One hr).2 (lax _ _ _ ht)
end Go.Abs
