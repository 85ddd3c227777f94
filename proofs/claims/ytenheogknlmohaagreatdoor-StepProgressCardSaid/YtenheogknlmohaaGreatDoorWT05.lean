/- typing: inversion; what a substitution of types and of values keeps -/
import Derived.Test.YtenheogknlmohaaGreatDoorWT02
import Derived.Test.YtenheogknlmohaaGreatDoorWS43
namespace Go.Abs
set_option linter.unusedSimpArgs false
set_option linter.unusedVariables false
open Go Go.Proofs
set_option maxRecDepth 100000
set_option maxHeartbeats 1000000
theorem structT_iff {c:TCtx} {x:Ty}:structT c x=true↔instB c.p x 1=true∧boundV c.env x=none:=by
 unfold structT
 have:(boundV c.env x=none)↔findV c.env x < 0:=by
  unfold boundV
  constructor
  ·intro h
   refine Decidable.byContradiction fun hn=>?_
   rw [if_neg hn] at h
   obtain⟨f,hf,_⟩:=findV_get hn
   rw [hf] at h;cases h
  ·intro h;rw [if_pos h]
 rw [this,Bool.and_eq_true,decide_eq_true_eq]
 exact And.comm
def KidsOK (c:TCtx)(ws:List Ty)(es:List Ex):Prop:=ws.length=es.length∧∀ (i:Nat)(w:Ty)(k:Ex),ws[i]? = some w→es[i]? = some k→∃ K,typeI c k=(K,none)∧implB c.p c.env K w=true
theorem kidsI_iff {c:TCtx}:∀ (ws:List Ty)(es:List Ex),ws.length=es.length→(kidsI c ws es (es.map (typeI c))=none↔∀ (i:Nat)(w:Ty)(k:Ex),ws[i]? = some w→es[i]? = some k→∃ K,typeI c k=(K,none)∧implB c.p c.env K w=true)
 | [],[],_=>by simp [kidsI]
 | [],_::_,h=>by simp at h
 | _::_,[],h=>by simp at h
 | w::ws,e::es,h=>by
  have ih:=kidsI_iff (c:=c) ws es (by simpa using h)
  rw [List.map_cons,kidsI]
  have hf:fitsI c w e (typeI c e)=none↔∃ K,typeI c e=(K,none)∧implB c.p c.env K w=true:=by
   unfold fitsI
   obtain⟨t,o⟩:=typeI c e
   cases o with
   | some q=>simp
   | none =>
    simp only [Prod.mk.injEq,and_true]
    constructor
    ·intro h;split at h
     ·rename_i hi;exact⟨t,rfl,hi⟩
     ·cases h
    ·rintro⟨K,rfl,hi⟩;rw [if_pos hi]
  constructor
  ·intro hk i w' k' h1 h2
   cases hfe:fitsI c w e (typeI c e) with
   | some q=>rw [hfe] at hk;cases hk
   | none =>
    rw [hfe] at hk
    cases i with
    | zero=>simp only [List.getElem?_cons_zero,Option.some.injEq] at h1 h2;subst h1;subst h2;exact hf.1 hfe
    | succ i=>exact ih.1 hk i w' k' (by simpa using h1) (by simpa using h2)
  ·intro hall
   rw [hf.2 (hall 0 w e rfl rfl)]
   exact ih.2 fun i w' k' h1 h2=>hall (i+1) w' k' (by simpa using h1) (by simpa using h2)
theorem orI_iff {o:Option Int} {t u:Ty}:orI o t=(u,none)↔o=none∧u=t:=by
 unfold orI;cases o with
 | some q=>simp [noI]
 | none=>simp [eq_comm]
theorem noI_ne {n:Int} {t:Ty}:noI n=(t,none)↔False:=by simp [noI]
theorem sigT_iff {c:TCtx} {e:Ex} {x:Ty} {s:Sig}:sigT c e x=.inr s↔s∈setU c.p c.env x∧s.name=e.name∧s.formals.length=e.targs.length∧(∀ t,t∈e.targs→chk c.p c.env t=none)∧boundsI c.p c.env s.formals e.targs < 0∧e.kids.length=s.params.length+1:=by
 have hcore:∀ s0:Sig,(if nameI (setT c.p c.env x) e.name < 0∨s0.formals.length≠e.targs.length then (.inl e.pos:Int ⊕ Sig) else
  match chkL c.p c.env e.targs with
  | some q=>.inl q
  | none=>if 0≤boundsI c.p c.env s0.formals e.targs then .inl ((e.targs[(boundsI c.p c.env s0.formals e.targs).toNat]?).getD default).pos else
   if e.kids.length≠s0.params.length+1 then .inl e.pos else .inr s0)=.inr s↔0≤nameI (setT c.p c.env x) e.name∧s0=s∧s.formals.length=e.targs.length∧(∀ t,t∈e.targs→chk c.p c.env t=none)∧boundsI c.p c.env s.formals e.targs < 0∧e.kids.length=s.params.length+1:=by
  intro s0
  rw [← chkL_iff]
  by_cases h1:nameI (setT c.p c.env x) e.name < 0∨s0.formals.length≠e.targs.length
  ·rw [if_pos h1]
   simp only [reduceCtorEq,false_iff]
   rintro⟨h2,rfl,h3,_⟩
   rcases h1 with h1 | h1
   ·omega
   ·exact h1 h3
  rw [if_neg h1]
  obtain⟨h2,h3⟩:=not_or.1 h1
  have h3:=Decidable.byContradiction h3
  cases hL:chkL c.p c.env e.targs with
  | some q=>simp
  | none =>
   simp only
   by_cases h4:0≤boundsI c.p c.env s0.formals e.targs
   ·rw [if_pos h4];simp only [reduceCtorEq,false_iff];rintro⟨_,rfl,_,_,h5,_⟩;omega
   rw [if_neg h4]
   by_cases h5:e.kids.length≠s0.params.length+1
   ·rw [if_pos h5];simp only [reduceCtorEq,false_iff];rintro⟨_,rfl,_,_,_,h6⟩;exact h5 h6
   rw [if_neg h5]
   constructor
   ·intro h;cases h;exact⟨by omega,rfl,h3,trivial,by omega,Decidable.byContradiction h5⟩
   ·rintro⟨_,rfl,_⟩;rfl
 unfold sigT
 rcases idxF_cases (fun s:Sig=>decide (s.name=e.name)) (setT c.p c.env x) with ⟨h1,h2⟩ | ⟨j,y,h1,h2,h3⟩
 ·have hn:nameI (setT c.p c.env x) e.name = -1:=h1
  constructor
  ·intro h
   split at h
   ·cases h
   ·exact absurd ((hcore _).1 h).1 (by omega)
  ·rintro⟨g1,g2,_⟩
   have:=h2 s (mem_setT.2 g1)
   simp [g2] at this
 ·have hn:nameI (setT c.p c.env x) e.name=j:=h1
  rw [hn,Int.toNat_natCast,h2]
  simp only
  rw [← hn]
  refine (hcore y).trans ?_
  have hy:=List.mem_of_getElem? h2
  have hyn:y.name=e.name:=by simpa using h3
  constructor
  ·rintro⟨_,rfl,g⟩;exact⟨mem_setT.1 hy,hyn,g⟩
  ·rintro⟨g1,g2,g⟩
   exact⟨by omega,nodup_name (setT_names _ _ _) hy (mem_setT.2 g1) (hyn.trans g2.symm),g⟩
theorem fieldI_cases {α:Type} (l:List Param)(nm:Str)(F:Param→α)(d:α)(y:α)(hd:y≠d) :
  ((match l[(fieldI l nm).toNat]? with | some f=>if fieldI l nm < 0 then d else F f | none=>d)=y)↔∃ (k:Nat) (f:Param),fieldI l nm=k∧l[k]? = some f∧F f=y:=by
 rcases idxF_cases (fun f:Param=>decide (f.name=nm)) l with ⟨h1,h2⟩ | ⟨j,x,h1,h2,h3⟩
 ·have hn:fieldI l nm = -1:=h1
  rw [hn]
  constructor
  ·intro h;split at h <;> exact absurd h.symm hd
  ·rintro⟨k,f,h,_⟩;omega
 ·have hn:fieldI l nm=j:=h1
  rw [hn,Int.toNat_natCast,h2]
  simp only
  rw [if_neg (by omega)]
  constructor
  ·intro h;exact⟨j,x,rfl,h2,h⟩
  ·rintro⟨k,f,g1,g2,g3⟩
   have:k=j:=by omega
   subst this
   rw [h2] at g2;cases g2;exact g3
theorem typed_iff {c:TCtx} {e:Ex} {t:Ty}:typeI c e=(t,none) ↔
  (e.kind=1∧∃ (k:Nat) (f:Param),fieldI c.vars e.name=k∧c.vars[k]? = some f∧t=f.type) ∨
  (e.kind=3∧chk c.p c.env e.type=none∧structT c e.type=true∧KidsOK c ((fieldsT c.p e.type).map (·.type)) e.kids∧t=e.type) ∨
  ∃ (v:Ex) (vs:List Ex) (x:Ty),e.kids=v::vs∧typeI c v=(x,none) ∧
   ((e.kind=2∧∃ s,sigT c e x=.inr s∧KidsOK c (parTs s e.targs) vs∧t=s.result.subst (fnames s.formals) e.targs) ∨
    (e.kind=4∧structT c x=true∧∃ (k:Nat) (f:Param),fieldI (fieldsT c.p x) e.name=k∧(fieldsT c.p x)[k]? = some f∧t=f.type) ∨
    (e.kind=5∧chk c.p c.env e.type=none∧(c.strict=true→possT c x e.type=true)∧t=e.type)):=by
 rw [typeI_eq]
 unfold typeIN
 by_cases k1:e.kind=1
 ·rw [if_pos k1]
  unfold varI
  refine (fieldI_cases c.vars e.name (fun f=>(f.type,(none:Option Int))) (noI e.pos) (t,none) (by simp [noI])).trans ?_
  constructor
  ·rintro⟨k,f,h1,h2,h3⟩;exact .inl ⟨k1,k,f,h1,h2,by simpa using h3.symm⟩
  ·rintro (⟨_,k,f,h1,h2,h3⟩ | ⟨h,_⟩ | ⟨_,_,_,_,_,h | h | h⟩)
   ·exact⟨k,f,h1,h2,by rw [h3]⟩
   all_goals omega
 rw [if_neg k1]
 by_cases k3:e.kind=3
 ·rw [if_pos k3]
  unfold litI
  constructor
  ·intro h
   split at h
   ·exact (noI_ne.1 h).elim
   ·rename_i hc
    split at h
    ·exact (noI_ne.1 h).elim
    ·rename_i hs
     obtain⟨h1,h2⟩:=orI_iff.1 h
     have hs1:structT c e.type=true:=by cases hh:structT c e.type with | true=>rfl | false=>exact absurd (.inl hh) hs
     have hl:(fieldsT c.p e.type).length=e.kids.length:=Decidable.byContradiction fun hh=>hs (.inr hh)
     exact .inr (.inl ⟨k3,hc,hs1,⟨by simpa using hl,(kidsI_iff _ _ (by simpa using hl)).1 h1⟩,h2⟩)
  ·rintro (⟨h,_⟩ | ⟨_,hc,hs,hk,rfl⟩ | ⟨_,_,_,_,_,h | h | h⟩)
   ·omega
   ·rw [hc]
    simp only
    have hl:(fieldsT c.p e.type).length=e.kids.length:=by simpa using hk.1
    rw [if_neg (by rw [hs];simp [hl])]
    exact orI_iff.2 ⟨(kidsI_iff _ _ hk.1).2 hk.2,rfl⟩
   all_goals omega
 rw [if_neg k3]
 by_cases k2:e.kind≠2∧e.kind≠4∧e.kind≠5
 ·rw [if_pos k2]
  constructor
  ·intro h;exact (noI_ne.1 h).elim
  ·rintro (⟨h,_⟩ | ⟨h,_⟩ | ⟨_,_,_,_,_,h | h | h⟩) <;> omega
 rw [if_neg k2]
 cases hks:e.kids with
 | nil =>
  constructor
  ·intro h;exact (noI_ne.1 h).elim
  ·rintro (⟨h,_⟩ | ⟨h,_⟩ | ⟨_,_,_,h,_⟩)
   ·omega
   ·omega
   ·cases h
 | cons v vs =>
  simp only [List.map_cons]
  have hred:∀ Q:Prop,((e.kind=1∧Q)∨(e.kind=3∧chk c.p c.env e.type=none∧structT c e.type=true∧KidsOK c ((fieldsT c.p e.type).map (·.type)) (v::vs)∧t=e.type)∨∃ (v':Ex) (vs':List Ex) (x:Ty),v::vs=v'::vs'∧typeI c v'=(x,none) ∧
   ((e.kind=2∧∃ s,sigT c e x=.inr s∧KidsOK c (parTs s e.targs) vs'∧t=s.result.subst (fnames s.formals) e.targs) ∨
    (e.kind=4∧structT c x=true∧∃ (k:Nat) (f:Param),fieldI (fieldsT c.p x) e.name=k∧(fieldsT c.p x)[k]? = some f∧t=f.type) ∨
    (e.kind=5∧chk c.p c.env e.type=none∧(c.strict=true→possT c x e.type=true)∧t=e.type)))↔∃ x,typeI c v=(x,none) ∧
   ((e.kind=2∧∃ s,sigT c e x=.inr s∧KidsOK c (parTs s e.targs) vs∧t=s.result.subst (fnames s.formals) e.targs) ∨
    (e.kind=4∧structT c x=true∧∃ (k:Nat) (f:Param),fieldI (fieldsT c.p x) e.name=k∧(fieldsT c.p x)[k]? = some f∧t=f.type) ∨
    (e.kind=5∧chk c.p c.env e.type=none∧(c.strict=true→possT c x e.type=true)∧t=e.type)):=by
   intro Q
   constructor
   ·rintro (⟨h,_⟩ | ⟨h,_⟩ | ⟨v',vs',x,h1,h2,h3⟩)
    ·omega
    ·omega
    ·cases h1;exact⟨x,h2,h3⟩
   ·rintro⟨x,h2,h3⟩;exact .inr (.inr ⟨v,vs,x,rfl,h2,h3⟩)
  rw [hred]
  rcases hv:typeI c v with ⟨x,o⟩
  cases o with
  | some q =>
   simp only [noI_ne,false_iff]
   rintro⟨y,h,_⟩;cases h
  | none =>
   simp only
   have hx:∀ R:Ty→Prop,(∃ y,(x,(none:Option Int))=(y,none)∧R y)↔R x:=fun R=>⟨fun⟨y,h,r⟩=>by cases h;exact r,fun r=>⟨x,rfl,r⟩⟩
   rw [hx]
   by_cases e2:e.kind=2
   ·rw [if_pos e2]
    unfold callI
    constructor
    ·intro h
     split at h
     ·exact (noI_ne.1 h).elim
     ·rename_i s hs
      obtain⟨h1,h2⟩:=orI_iff.1 h
      have hl:=(sigT_iff.1 hs).2.2.2.2.2
      rw [hks,List.length_cons] at hl
      rw [hks] at h1
      have hl':(parTs s e.targs).length=vs.length:=by unfold parTs;rw [List.length_map];omega
      exact .inl ⟨e2,s,hs,⟨hl',(kidsI_iff _ _ hl').1 h1⟩,h2⟩
    ·rintro (⟨_,s,hs,hk,rfl⟩ | ⟨h,_⟩ | ⟨h,_⟩)
     ·rw [hs]
      simp only
      rw [hks]
      exact orI_iff.2 ⟨(kidsI_iff _ _ hk.1).2 hk.2,rfl⟩
     all_goals omega
   rw [if_neg e2]
   by_cases e4:e.kind=4
   ·rw [if_pos e4]
    unfold selI
    constructor
    ·intro h
     split at h
     ·exact (noI_ne.1 h).elim
     ·rename_i hs
      obtain⟨k,f,h1,h2,h3⟩:=(fieldI_cases (fieldsT c.p x) e.name (fun f=>(f.type,(none:Option Int))) (noI e.pos) (t,none) (by simp [noI])).1 h
      exact .inr (.inl ⟨e4,by simpa using hs,k,f,h1,h2,by simpa using h3.symm⟩)
    ·rintro (⟨h,_⟩ | ⟨_,hs,k,f,h1,h2,h3⟩ | ⟨h,_⟩)
     ·omega
     ·rw [if_neg (by rw [hs];simp)]
      exact (fieldI_cases (fieldsT c.p x) e.name (fun f=>(f.type,(none:Option Int))) (noI e.pos) (t,none) (by simp [noI])).2 ⟨k,f,h1,h2,by rw [h3]⟩
     ·omega
   rw [if_neg e4]
   unfold asrtI
   constructor
   ·intro h
    split at h
    ·exact (noI_ne.1 h).elim
    ·rename_i hc
     split at h
     ·exact (noI_ne.1 h).elim
     ·rename_i hs
      exact .inr (.inr ⟨by omega,hc,fun hst=>by cases hp:possT c x e.type with | true=>rfl | false=>exact absurd ⟨hst,hp⟩ hs,by simpa using h.symm⟩)
   ·rintro (⟨h,_⟩ | ⟨h,_⟩ | ⟨_,hc,hs,rfl⟩)
    ·omega
    ·omega
    ·rw [hc]
     simp only
     rw [if_neg]
     rintro⟨h1,h2⟩
     rw [hs h1] at h2;cases h2
section
variable {p:Prog} {env env':List Formal} {v:List Str} {a:List Ty}
theorem erepl_eq (names:List Str)(vals:List Ex)(e:Ex):e.repl names vals=replG names vals (e.kidded (e.kids.map (Ex.repl names vals))):=by
 unfold Ex.repl
 rw [mapped_eq]
end
end Go.Abs
/- a step keeps the type of an expression, or makes it smaller -/
namespace Go.Abs
set_option linter.unusedSimpArgs false
set_option linter.unusedVariables false
open Go Go.Proofs
set_option maxRecDepth 100000
set_option maxHeartbeats 1000000
abbrev ctx0 (p:Prog):TCtx:=⟨p,false,[],[]⟩
theorem setU_meth {p:Prog} {x:Ty} {s:Sig} (hx:instB p x 1=true)(hs:s∈setU p [] x):∃ d,d∈p.decls∧d.kind=3∧d.name=x.name∧d.vars.length=x.args.length∧s=d.sig.canon.subst d.vars x.args∧methD p x s.name=some d:=by
 unfold setU at hs
 have hb:boundV [] x=none:=by unfold boundV findV;split <;> simp [idxF]
 rw [hb] at hs
 simp only [Option.getD_none,Option.isSome_none,Bool.false_eq_true,if_false] at hs
 have h2:¬ instB p x 2=true:=fun h=>by have:=(inst_kind h).1;have:=(inst_kind hx).1;omega
 rw [if_neg h2] at hs
 unfold methL at hs
 rw [List.mem_map] at hs
 obtain⟨⟨d,i⟩,hd,rfl⟩:=hs
 rw [List.mem_filter] at hd
 have hm:=hd.2
 unfold methB at hm
 simp only [Bool.and_eq_true,decide_eq_true_eq] at hm
 obtain⟨⟨hk,hn⟩,hmp⟩:=hm
 have hdi:p.decls[i]? = some d:=by
  have:=hd.1
  rw [List.take_length] at this
  obtain⟨_,h2,h3⟩:=List.mem_zipIdx this
  simp only [Nat.sub_zero] at h3
  rw [h3];exact List.getElem?_eq_getElem _
 have hfi:methI p x.name d.sig.name=(i:Int)∧d.vars.length=x.args.length:=by
  unfold methP at hmp
  rw [if_pos hx] at hmp
  split at hmp
  ·rename_i d' hd'
   split at hmp
   ·rename_i hc
    rw [hmp,Int.toNat_natCast,hdi] at hd'
    cases hd'
    exact⟨hmp,hc.2⟩
   ·omega
  ·omega
 refine⟨d,List.mem_of_getElem? hdi,hk,hn,hfi.2,rfl,?_⟩
 show methD p x d.sig.name=some d
 unfold methD
 rw [if_pos hx]
 have hf:p.decls.find? (keyM x.name d.sig.name)=some d:=by
  unfold methI idxF at hfi
  cases h:p.decls.findIdx? (keyM x.name d.sig.name) with
  | none=>rw [h] at hfi;have:=hfi.1;simp only at this;omega
  | some j =>
   rw [h] at hfi
   have hj:j=i:=by have:=hfi.1;simp only at this;omega
   subst hj
   obtain⟨h1,h2,h3⟩:=List.findIdx?_eq_some_iff_getElem.1 h
   have hdj:p.decls[j]=d:=by rw [List.getElem?_eq_getElem h1] at hdi;simpa using hdi
   rw [List.find?_eq_some_iff_getElem]
   refine⟨by rw [hdj] at h2;exact h2,j,h1,hdj,fun k hk=>?_⟩
   have:=h3 k hk;simpa using this
 rw [hf]
 simp only [hfi.2,if_true]
section
variable {p:Prog}
structure Called (p:Prog)(d:Decl)(x:Ty)(targs:List Ty):Prop where
 sb:Sb p (envR p d++d.sig.formals) [] (d.vars++fnames d.sig.formals) (x.args++targs)
 wf:∀ u,u∈x.args++targs→chk p [] u=none
 self:((selfT d).subst (d.vars++fnames d.sig.formals) (x.args++targs)).er=x.er
 inst:∀ b:Ty,chk p (envR p d++d.sig.formals) b=none→((b.subst (fnames d.sig.formals) (localTs d.sig.formals.length)).subst d.vars x.args).subst (fnames d.sig.canon.formals) targs=b.subst (d.vars++fnames d.sig.formals) (x.args++targs)
theorem lit_typed {e:Ex} {t:Ty} (h3:e.kind=3)(h:typeI (ctx0 p) e=(t,none)):chk p [] e.type=none∧instB p e.type 1=true∧KidsOK (ctx0 p) ((fieldsT p e.type).map (·.type)) e.kids∧t=e.type:=by
 rcases typed_iff.1 h with ⟨h,_⟩ | ⟨_,h1,h2,h3,h4⟩ | ⟨_,_,_,_,_,h | h | h⟩
 ·omega
 ·exact⟨h1,(structT_iff.1 h2).1,h3,h4⟩
 all_goals omega
end
end Go.Abs
/- no expression with a type is stuck -/
namespace Go.Abs
set_option linter.unusedSimpArgs false
set_option linter.unusedVariables false
open Go Go.Proofs
set_option maxRecDepth 100000
set_option maxHeartbeats 1000000
theorem kids_typed {p:Prog} {e:Ex} {t:Ty} (h1:e.One)(ht:typeI (ctx0 p) e=(t,none)):∀ x,x∈e.kids→∃ K,typeI (ctx0 p) x=(K,none):=by
 have key:∀ (ws:List Ty) (es:List Ex),KidsOK (ctx0 p) ws es→∀ x,x∈es→∃ K,typeI (ctx0 p) x=(K,none):=fun ws es hK x hx=>by
  obtain⟨i,hi⟩:=List.getElem?_of_mem hx
  have hlt:i < ws.length:=by rw [hK.1];exact (List.getElem?_eq_some_iff.1 hi).1
  obtain⟨K,hk,_⟩:=hK.2 i _ x (List.getElem?_eq_getElem hlt) hi
  exact⟨K,hk⟩
 rcases typed_iff.1 ht with ⟨_,k,f,_,h2,_⟩ | ⟨_,_,_,hK,_⟩ | ⟨v,vs,x,hks,hx,hc⟩
 ·simp at h2
 ·exact key _ _ hK
 ·intro y hy
  rw [hks] at hy
  rcases List.mem_cons.1 hy with rfl | hy
  ·exact⟨x,hx⟩
  ·rcases hc with ⟨_,s,_,hK,_⟩ | ⟨k4,_⟩ | ⟨k5,_⟩
   ·exact key _ _ hK y hy
   ·have:=h1.out.1.2 (.inl k4);rw [hks] at this
    have:vs=[]:=by simpa using this
    rw [this] at hy;simp at hy
   ·have:=h1.out.1.2 (.inr k5);rw [hks] at this
    have:vs=[]:=by simpa using this
    rw [this] at hy;simp at hy
theorem progress (p:Prog):∀ (e:Ex)(t:Ty),e.One→typeI (ctx0 p) e=(t,none)→(stepE p e).2≠4∧((stepE p e).2=2↔isVal e=true):=by
 intro e
 induction e using Ex.induct with | _ e ih=>?_
 intro t h1 ht
 have hkt:=kids_typed h1 ht
 rw [stepE_eq]
 rcases stepL_cases p e.kids with ⟨ha,hb⟩ | ⟨i,k,ha,hi,hv,hlt,hb⟩
 ·rw [hb]
  simp only
  have hall:∀ x,x∈e.kids→isVal x=true:=fun x hx=>by
   rcases idxF_cases (fun k=>!isVal k) e.kids with ⟨_,h'⟩ | ⟨j,y,h',_⟩
   ·have:=h' x hx;simpa using this
   ·omega
  have hvl:isValL e.kids=true:=(isValL_iff _).2 hall
  unfold redexE
  rcases typed_iff.1 ht with ⟨_,k,f,_,h2,_⟩ | ⟨h3,_⟩ | ⟨v,vs,x,hks,hx,hc⟩
  ·simp at h2
  ·rw [if_pos h3]
   refine⟨by simp,?_⟩
   rw [isVal_eq,hvl];simp [h3]
  have hv3:v.kind=3:=by
   have:=hall v (by rw [hks];simp)
   rw [isVal_eq] at this;simp only [Bool.and_eq_true,decide_eq_true_eq] at this;exact this.2
  obtain⟨l1,l2,l3,rfl⟩:=lit_typed hv3 hx
  have hne:e.kind≠3:=by rcases hc with h | h | h <;> omega
  have hnv:isVal e=false:=by rw [isVal_eq,hvl];simp [hne]
  rw [if_neg hne,hks,hnv]
  simp only [List.getElem?_cons_zero,Bool.false_eq_true,iff_false]
  rcases hc with ⟨k2,s,hs,hK,rfl⟩ | ⟨k4,_,k,f,hf1,hf2,rfl⟩ | ⟨k5,hc,_,rfl⟩
  ·rw [if_pos k2]
   obtain⟨s1,s2,s3,s4,s5,s6⟩:=sigT_iff.1 hs
   obtain⟨d,d1,d2,d3,d4,rfl,d6⟩:=setU_meth l2 s1
   have hcl:d.sig.formals.length=e.targs.length:=by rw [← s3];simp [Sig.subst,Sig.canon,canF]
   have hpl:d.sig.params.length+1=e.kids.length:=by rw [s6];simp [Sig.subst,Sig.canon,canP]
   unfold callE
   rw [← s2,d6]
   simp only
   rw [if_pos ⟨hcl,hpl⟩]
   simp
  ·rw [if_neg (by omega),if_pos k4]
   unfold selE
   have hf1':idxF (fun f:Param=>decide (f.name=e.name)) (fieldsT p v.type)=k:=hf1
   have hkl:k < v.kids.length:=by
    have h1:=(List.getElem?_eq_some_iff.1 hf2).1
    have h2:=l3.1
    rw [List.length_map] at h2
    have h1:k < (fieldsT p v.type).length:=h1
    omega
   rw [hf1',if_pos ⟨l2,by omega,by omega⟩]
   simp
  ·rw [if_neg (by omega),if_neg (by omega),if_pos k5]
   unfold asrtE
   split <;> simp
 ·rw [hb]
  simp only
  have hkm:=List.mem_of_getElem? hi
  obtain⟨K,hK⟩:=hkt k hkm
  have hI:=ih k hkm K (h1.out.2 k hkm) hK
  have hnv:isVal e=false:=by
   rw [isVal_eq]
   cases hh:isValL e.kids with
   | false=>rfl
   | true=>rw [(isValL_iff _).1 hh k hkm] at hv;cases hv
  rw [hnv]
  rw [hv] at hI
  have h2:(stepE p k).2≠2:=fun h=>by have:=hI.2.1 h;cases this
  by_cases ho:(stepE p k).2=1
  ·rw [if_pos ho];simp
  ·rw [if_neg ho];simp only [Bool.false_eq_true,iff_false];exact⟨hI.1,h2⟩
end Go.Abs
