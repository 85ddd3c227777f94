/- layer 13's plain laws: implementing is reflexive and transitive; a declaration's own type is well formed -/
import Derived.Test.YtdohpbjgaaneeaaGreatDoorQS25
import Derived.Test.YtdohpbjgaaneeaaGreatDoorQS36
import Derived.Test.YtdohpbjgaaneeaaGreatDoorQS56
namespace Go.Abs
set_option linter.unusedSimpArgs false
set_option linter.unusedVariables false
open Go Go.Proofs
set_option maxRecDepth 100000
set_option maxHeartbeats 1000000
mutual
def Ty.er:Ty→Ty
 | .mk n a _=>.mk n (Ty.erL a) 0
def Ty.erL:List Ty→List Ty
 | []=>[]
 | t::ts=>t.er::Ty.erL ts
end
theorem erL_map:∀ l:List Ty,Ty.erL l=l.map Ty.er
 | []=>by rw [Ty.erL];rfl
 | t::l=>by rw [Ty.erL,erL_map l];rfl
theorem er_eq (t:Ty):t.er=.mk t.name (t.args.map Ty.er) 0:=by
 cases t with | mk n a p=>rw [Ty.er,erL_map];rfl
theorem mkN (n:Str)(a:List Ty)(p:Int):(Ty.mk n a p).name=n:=rfl
theorem mkA (n:Str)(a:List Ty)(p:Int):(Ty.mk n a p).args=a:=rfl
theorem cmpTL_er:∀ l m:List Ty,(∀ t,t∈l→∀ u,cmpT t u=0↔t.er=u.er)→(cmpTL l m=0↔l.map Ty.er=m.map Ty.er)
 | [],[],_=>by simp [cmpTL]
 | [],_::_,_=>by simp [cmpTL]
 | _::_,[],_=>by simp [cmpTL]
 | x::xs,y::ys,h=>by
  have h1:=h x (by simp) y
  have h2:=cmpTL_er xs ys fun t ht=>h t (by simp [ht])
  rw [cmpTL]
  by_cases hc:cmpT x y=0
  ·rw [if_neg (by simp [hc]),h2]
   simp [h1.1 hc]
  ·rw [if_pos hc]
   have:¬ x.er=y.er:=fun hh=>hc (h1.2 hh)
   simp [hc,this]
theorem cmpT_er (t:Ty):∀ u,cmpT t u=0↔t.er=u.er:=by
 induction t using Ty.induct with
 | h t ih =>
 intro u
 have h2:=cmpTL_er t.args u.args ih
 rw [cmpT_eq,er_eq t,er_eq u]
 by_cases hn:t.name=u.name
 ·rw [if_neg (by simp [cmpS_zero.2 hn]),h2]
  simp [hn]
 ·have:¬ cmpS t.name u.name=0:=fun hh=>hn (cmpS_zero.1 hh)
  rw [if_pos this]
  simp [this,hn]
theorem sameT_er (t u:Ty):sameT t u=true↔t.er=u.er:=by
 unfold sameT;rw [decide_eq_true_eq];exact cmpT_er t u
def Formal.er (f:Formal):Formal:=⟨f.name,f.bound.er,0⟩
def Param.er (f:Param):Param:=⟨f.name,f.type.er,0⟩
def Sig.er (s:Sig):Sig:=⟨s.name,s.formals.map Formal.er,s.params.map Param.er,s.result.er,0⟩
theorem index_names (l:List Formal)(nm:Str):(indexS nm (fnames l) 0 = -1)∨∃ (k:Nat)(f:Formal),l[k]? = some f∧f.name=nm∧indexS nm (fnames l) 0=(k:Int):=by
 rcases indexS_find nm (fnames l) 0 with ⟨h,_⟩ | ⟨k,h1,h2⟩
 ·exact .inl h
 ·unfold fnames at h1
  rw [List.getElem?_map,Option.map_eq_some_iff] at h1
  obtain⟨f,hf,he⟩:=h1
  exact .inr ⟨k,f,hf,he,by rw [h2];simp⟩
end Go.Abs
/- substitution of types: composition, exchange; names that a type has -/
namespace Go.Abs
set_option linter.unusedSimpArgs false
set_option linter.unusedVariables false
open Go Go.Proofs
set_option maxRecDepth 100000
set_option maxHeartbeats 1000000
inductive Ty.Lf (S:Str→Prop):Ty→Prop where
 | mk (n:Str) (a:List Ty) (p:Int):(a=[]→S n)→(∀ t,t∈a→Ty.Lf S t)→Ty.Lf S (.mk n a p)
theorem Ty.Lf.name {S:Str→Prop} {t:Ty} (h:t.Lf S)(ha:t.args=[]):S t.name:=by cases h with | mk n a p h1 h2=>exact h1 ha
theorem Ty.Lf.arg {S:Str→Prop} {t:Ty} (h:t.Lf S):∀ u,u∈t.args→u.Lf S:=by cases h with | mk n a p h1 h2=>exact h2
theorem Ty.Lf.of {S:Str→Prop} {t:Ty} (h1:t.args=[]→S t.name)(h2:∀ u,u∈t.args→u.Lf S):t.Lf S:=by cases t with | mk n a p=>exact .mk n a p h1 h2
theorem Ty.Lf.mono {S T:Str→Prop} {t:Ty} (h:t.Lf S)(hs:∀ n,S n→T n):t.Lf T:=by
 induction t using Ty.induct with
 | h t ih=>exact .of (fun ha=>hs _ (h.name ha)) fun u hu=>ih u hu (h.arg u hu)
def lookN (vars:List Str)(args:List Ty)(n:Str):Option Ty:=if 0≤indexS n vars 0∧indexS n vars 0 < args.length then args[(indexS n vars 0).toNat]? else none
theorem subst_look (vars:List Str)(args:List Ty)(t:Ty):t.subst vars args=match (if t.args=[] then lookN vars args t.name else none) with
  | some u=>.mk u.name u.args t.pos
  | none=>.mk t.name (t.args.map (Ty.subst vars args)) t.pos:=by
 rw [subst_eq]
 unfold lookN
 by_cases ha:t.args=[]
 ·rw [if_pos ha]
  by_cases hc:0≤indexS t.name vars 0∧indexS t.name vars 0 < args.length
  ·have hlt:(indexS t.name vars 0).toNat < args.length:=by omega
   rw [if_pos ⟨by rw [ha];rfl,hc⟩,if_pos hc,List.getElem?_eq_getElem hlt]
   rfl
  ·rw [if_neg fun h=>hc h.2,if_neg hc]
 ·rw [if_neg ha,if_neg fun h=>ha (List.eq_nil_of_length_eq_zero h.1)]
theorem subst_leaf {vars:List Str} {args:List Ty} {t u:Ty} (ha:t.args=[])(h:lookN vars args t.name=some u):t.subst vars args=.mk u.name u.args t.pos:=by
 rw [subst_look,if_pos ha,h]
theorem subst_node {vars:List Str} {args:List Ty} {t:Ty} (h:t.args=[]→lookN vars args t.name=none):t.subst vars args=.mk t.name (t.args.map (Ty.subst vars args)) t.pos:=by
 rw [subst_look]
 by_cases ha:t.args=[]
 ·rw [if_pos ha,h ha]
 ·rw [if_neg ha]
theorem lookN_out {vars:List Str} {args:List Ty} {n:Str} (h:n ∉ vars):lookN vars args n=none:=by
 unfold lookN
 rcases indexS_find n vars 0 with ⟨h1,_⟩ | ⟨k,h1,h2⟩
 ·rw [if_neg (by omega)]
 ·exact absurd (List.mem_of_getElem? h1) h
theorem lookN_in {vars:List Str} {args:List Ty} {n:Str} (h:n∈vars)(hl:vars.length≤args.length):∃ (k:Nat)(u:Ty),indexS n vars 0=k∧vars[k]? = some n∧args[k]? = some u∧lookN vars args n=some u:=by
 unfold lookN
 rcases indexS_find n vars 0 with ⟨_,h2⟩ | ⟨k,h1,h2⟩
 ·exact absurd h h2
 ·have hk:=(List.getElem?_eq_some_iff.1 h1).1
  have hk2:k < args.length:=by omega
  refine⟨k,args[k],by rw [h2];simp,h1,List.getElem?_eq_getElem hk2,?_⟩
  rw [h2,if_pos (by omega)]
  simp only [Nat.zero_add,Int.toNat_natCast]
  exact List.getElem?_eq_getElem hk2
theorem lookN_mem {vars:List Str} {args:List Ty} {n:Str} {u:Ty} (h:lookN vars args n=some u):n∈vars∧u∈args:=by
 have h1:u∈args:=by
  unfold lookN at h
  split at h
  ·exact List.mem_of_getElem? h
  ·cases h
 refine⟨Decidable.byContradiction fun hn=>?_,h1⟩
 rw [lookN_out hn] at h;cases h
theorem indexS_shift (n:Str):∀ (v:List Str)(i:Nat),indexS n v i=if n∈v then indexS n v 0+i else -1:=by
 intro v
 induction v with
 | nil=>intro i;rfl
 | cons x v ih =>
  intro i
  rw [indexS,indexS]
  by_cases hx:n=x
  ·rw [if_pos hx,if_pos hx,if_pos (by simp [hx])];simp
  ·rw [if_neg hx,if_neg hx,ih (i+1),ih (0+1)]
   simp only [List.mem_cons,hx,false_or]
   split <;> omega
theorem idxN_cons {α:Type} (p:α→Bool)(x:α)(l:List α):idxF p (x::l)=if p x=true then 0 else if idxF p l = -1 then -1 else idxF p l+1:=by
 unfold idxF
 rw [List.findIdx?_cons]
 by_cases hx:p x=true
 ·rw [if_pos hx,if_pos hx];rfl
 ·rw [if_neg hx,if_neg hx]
  cases l.findIdx? p with
  | none=>simp
  | some j=>simp only [Option.map_some];rw [if_neg (by omega)];omega
theorem idx_names {α:Type} (g:α→Str)(nm:Str):∀ l:List α,idxF (fun f=>decide (g f=nm)) l=indexS nm (l.map g) 0
 | []=>rfl
 | x::l=>by
  rw [idxN_cons,idx_names g nm l,List.map_cons,indexS,indexS_shift nm (l.map g) (0+1)]
  by_cases hx:nm=g x
  ·rw [if_pos hx,if_pos (by simp [hx])];rfl
  ·rw [if_neg hx,if_neg (by simpa using fun h=>hx h.symm)]
   rcases indexS_find nm (l.map g) 0 with ⟨h1,h2⟩ | ⟨k,h1,h2⟩
   ·rw [if_pos h1,if_neg h2]
   ·rw [if_neg (by omega),if_pos (List.mem_of_getElem? h1)];omega
def Sig.Lf (S:Str→Prop)(s:Sig):Prop:=(∀ f,f∈s.formals→f.bound.Lf S)∧(∀ f,f∈s.params→f.type.Lf S)∧s.result.Lf S
theorem Sig.Lf.mono {S T:Str→Prop} {s:Sig} (h:s.Lf S)(hs:∀ n,S n→T n):s.Lf T:=⟨fun f hf=>(h.1 f hf).mono hs,fun f hf=>(h.2.1 f hf).mono hs,h.2.2.mono hs⟩
def isLoc (n:Str):Prop:=∃ i,n=localS i
structure Sig.Cn (s:Sig):Prop where
 fs:fnames s.formals=(List.range s.formals.length).map localS
 ps:∀ f,f∈s.params→f.name=[]
theorem Sig.Cn.subst {s:Sig} (h:s.Cn)(v:List Str)(a:List Ty):(s.subst v a).Cn:=by
 refine⟨?_,fun f hf=>?_⟩
 ·simp only [Sig.subst,List.length_map]
  rw [← h.fs]
  simp only [fnames,List.map_map];rfl
 ·simp only [Sig.subst] at hf
  obtain⟨g,hg,rfl⟩:=List.mem_map.1 hf
  exact h.ps g hg
theorem localT_self {n:Nat} (t:Ty):t.subst ((List.range n).map localS) (localTs n)=t:=by
 induction t using Ty.induct with
 | h t ih =>
 rw [subst_look]
 cases hu:(if t.args=[] then lookN ((List.range n).map localS) (localTs n) t.name else none) with
 | none =>
  simp only
  rw [List.map_congr_left (g:=id) fun u hu=>ih u hu]
  cases t;simp [Ty.name,Ty.args,Ty.pos]
 | some u =>
  split at hu
  ·rename_i ha
   obtain⟨k,w,h1,h2,h3,h4⟩:=lookN_in (lookN_mem hu).1 (args:=localTs n) (by simp [localTs])
   rw [h4] at hu
   simp only [Option.some.injEq] at hu
   subst hu
   have hk:k < n:=by have:=(List.getElem?_eq_some_iff.1 h3).1;simpa [localTs] using this
   have e1:t.name=localS k:=by
    rw [List.getElem?_map,List.getElem?_range hk] at h2;simpa using h2.symm
   have e2:w=localT k:=by
    unfold localTs at h3
    rw [List.getElem?_map,List.getElem?_range hk] at h3;simpa using h3.symm
   subst e2
   cases t;simp only [Ty.name,Ty.args,Ty.pos] at *;subst ha;subst e1;rfl
  ·cases hu
theorem Sig.Cn.canon {s:Sig} (h:s.Cn):s.canon=s:=by
 cases s with | mk nm fs ps r q =>
 have hf:=h.fs
 have hp:=h.ps
 simp only [] at hf hp
 simp only [Sig.canon,Sig.mk.injEq,true_and,and_true,canF,canP]
 rw [hf]
 refine⟨?_,?_,localT_self _⟩
 ·refine List.ext_getElem? fun i=>?_
  rw [List.getElem?_mapIdx]
  cases h:fs[i]? with
  | none=>rfl
  | some f =>
   have hi:=(List.getElem?_eq_some_iff.1 h).1
   have hn:(fnames fs)[i]? = some f.name:=by unfold fnames;rw [List.getElem?_map,h];rfl
   rw [hf,List.getElem?_map,List.getElem?_range hi] at hn
   simp only [Option.map_some,Option.some.injEq] at hn
   simp only [Option.map_some,localT_self,if_pos hi,hn]
 ·refine List.ext_getElem? fun i=>?_
  rw [List.getElem?_mapIdx]
  cases h:ps[i]? with
  | none=>rfl
  | some f =>
   have hi:=(List.getElem?_eq_some_iff.1 h).1
   simp only [Option.map_some,localT_self,if_pos hi,← hp f (List.mem_of_getElem? h)]
end Go.Abs
/- a program whose heads are in order: what substitution of types keeps: fields, method sets, implementing, well-formedness -/
namespace Go.Abs
set_option linter.unusedSimpArgs false
set_option linter.unusedVariables false
open Go Go.Proofs
set_option maxRecDepth 100000
set_option maxHeartbeats 1000000
structure PW (p:Prog):Prop where
 name:∀ n,kindOf p n≠0→¬ isLoc n
 bnd:∀ x d,declT p x=some d→∀ f,f∈d.formals→f.bound.Lf fun n=>n∈fnames d.formals∨kindOf p n≠0
 fld:∀ x d,declT p x=some d→d.kind=1→∀ f,f∈d.fields→f.type.Lf fun n=>n∈fnames d.formals∨kindOf p n≠0
 spc:∀ x d,declT p x=some d→d.kind=2→∀ s,s∈d.sigs→s.Lf fun n=>n∈fnames s.formals∨(n∈fnames d.formals∨kindOf p n≠0)
 mth:∀ d,d∈p.decls→d.kind=3→d.sig.Lf fun n=>n∈fnames d.sig.formals∨(n∈d.vars∨kindOf p n≠0)
structure Sb (p:Prog)(env env':List Formal)(v:List Str)(a:List Ty):Prop where
 names:v=fnames env
 len:a.length=v.length
 fresh:∀ n,n∈v→kindOf p n=0∧¬ isLoc n
 fresh':∀ n,n∈fnames env'→kindOf p n=0
 clean:∀ u,u∈a→u.Lf fun n=>¬ isLoc n
 iface:∀ f,f∈env→isIface p env f.bound=true
 bnd:∀ (i:Nat) (f:Formal) (u:Ty),env[i]? = some f→a[i]? = some u→implB p env' u (f.bound.subst v a)=true
theorem boundV_kind {p:Prog} {env:List Formal} {t:Ty} (h:∀ n,n∈fnames env→kindOf p n=0)(hk:kindOf p t.name≠0):boundV env t=none:=by
 unfold boundV
 rw [if_pos]
 unfold findV
 split
 ·rcases idxF_cases (fun f:Formal=>decide (f.name=t.name)) env with ⟨h1,_⟩ | ⟨j,x,_,h2,h3⟩
  ·omega
  ·have:=h x.name (List.mem_map.2 ⟨x,List.mem_of_getElem? h2,rfl⟩)
   simp only [decide_eq_true_eq] at h3
   rw [h3] at this;exact absurd this hk
 ·omega
theorem boundV_some {env:List Formal} {t b:Ty} (h:boundV env t=some b):∃ (k:Nat)(f:Formal),env[k]? = some f∧b=f.bound∧t.args=[]∧indexS t.name (fnames env) 0=k∧f.name=t.name:=by
 unfold boundV at h
 split at h
 ·cases h
 ·rename_i hn
  unfold findV at h hn
  split at hn
  ·rename_i ha
   rw [if_pos ha] at h
   rw [idx_names] at h hn
   rcases index_names env t.name with h1 | ⟨k,f,hf,he,hk⟩
   ·unfold fnames at h1;rw [h1] at hn;exact absurd (by decide) hn
   ·unfold fnames at hk
    rw [hk,Int.toNat_natCast,hf] at h
    simp only [Option.map_some,Option.some.injEq] at h
    exact⟨k,f,hf,h.symm,List.eq_nil_of_length_eq_zero ha,hk,he⟩
  ·exact absurd (by decide) hn
theorem boundV_none {env:List Formal} {t:Ty} (h:boundV env t=none)(ha:t.args=[]):t.name ∉ fnames env:=by
 intro hm
 unfold boundV findV at h
 have ha0:t.args.length=0:=by rw [ha];rfl
 rw [if_pos ha0,idx_names] at h
 rcases index_names env t.name with h1 | ⟨k,f,hf,he,hk⟩
 ·rcases indexS_find t.name (fnames env) 0 with ⟨_,h2⟩ | ⟨k,h2,h3⟩
  ·exact h2 hm
  ·omega
 ·unfold fnames at hk
  rw [hk,if_neg (by omega),Int.toNat_natCast,hf] at h;cases h
theorem inst_kind {p:Prog} {t:Ty} {k:Int} (h:instB p t k=true):kindOf p t.name=k∧(formalsT p t.name).length=t.args.length:=by
 unfold instB at h;simpa using h
theorem inst_of {p:Prog} {t u:Ty} {k:Int} (h:instB p t k=true)(hn:u.name=t.name)(hl:u.args.length=t.args.length):instB p u k=true:=by
 unfold instB at *;rw [hn,hl];exact h
section
variable {p:Prog} {env env':List Formal} {v:List Str} {a:List Ty}
theorem Sb.node (sb:Sb p env env' v a) {t:Ty} (h:boundV env t=none):t.subst v a=.mk t.name (t.args.map (Ty.subst v a)) t.pos :=
 subst_node fun ha=>lookN_out (by rw [sb.names];exact boundV_none h ha)
theorem Sb.envf (sb:Sb p env env' v a):∀ n,n∈fnames env→kindOf p n=0:=fun n hn=>(sb.fresh n (by rw [sb.names];exact hn)).1
theorem Sb.inst (sb:Sb p env env' v a) {t:Ty} {k:Int} (hk:k≠0)(h:instB p t k=true):t.subst v a=.mk t.name (t.args.map (Ty.subst v a)) t.pos∧instB p (t.subst v a) k=true∧boundV env t=none∧boundV env' (t.subst v a)=none:=by
 have hn:=(inst_kind h).1
 have hb:=boundV_kind (t:=t) sb.envf (by rw [hn];exact hk)
 have he:=sb.node hb
 refine⟨he,?_,hb,?_⟩
 ·rw [he];exact inst_of h rfl (by simp [mkA])
 ·rw [he];exact boundV_kind sb.fresh' (by rw [mkN,hn];exact hk)
theorem Sb.var (sb:Sb p env env' v a) {t b:Ty} (h:boundV env t=some b):∃ (k:Nat)(f:Formal)(u:Ty),env[k]? = some f∧b=f.bound∧t.args=[]∧a[k]? = some u∧t.subst v a=.mk u.name u.args t.pos:=by
 obtain⟨k,f,h1,h2,h3,h4,h5⟩:=boundV_some h
 have hm:t.name∈v:=by rw [sb.names,← h5];exact List.mem_map.2 ⟨f,List.mem_of_getElem? h1,rfl⟩
 obtain⟨k',u,g1,g2,g3,g4⟩:=lookN_in hm (args:=a) (by rw [sb.len];exact Nat.le_refl _)
 have:k'=k:=by rw [sb.names,h4] at g1;omega
 subst this
 exact⟨k',f,u,h1,h2,h3,g3,subst_leaf h3 g4⟩
theorem Sb.out (sb:Sb p env env' v a) {n:Str} (h:isLoc n∨kindOf p n≠0):n ∉ v:=fun hn=>by
 obtain⟨h1,h2⟩:=sb.fresh n hn
 rcases h with h | h
 ·exact h2 h
 ·exact h h1
end
section
variable {p:Prog} {env env':List Formal} {v:List Str} {a:List Ty}
end
end Go.Abs
