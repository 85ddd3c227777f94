/- substitution of types: composition, exchange; names that a type has -/
import Derived.Test.YtfjaahliphbklaaGreatDoorJS58
import Derived.Test.YtfjaahliphbklaaGreatDoorJS44
namespace Go.Abs
set_option linter.unusedSimpArgs false
set_option linter.unusedVariables false
open Go Go.Proofs
set_option maxRecDepth 100000
set_option maxHeartbeats 1000000
inductive Ty.Lf (S:Str→Prop):Ty→Prop where
 | mk (n:Str) (a:List Ty) (p:Int):(a=[]→S n)→(∀ t,t∈a→Ty.Lf S t)→Ty.Lf S (.mk n a p)
theorem Ty.Lf.name {S:Str→Prop} {t:Ty} (h:t.Lf S)(ha:t.args=[]):S t.name:=by cases h with | mk n a p h1 h2=>exact h1 ha
theorem Ty.Lf.arg {S:Str→Prop} {t:Ty} (h:t.Lf S):∀ u,u∈t.args→u.Lf S:=by cases h with | mk n a p h1 h2=>exact h2
theorem Ty.Lf.of {S:Str→Prop} {t:Ty} (h1:t.args=[]→S t.name)(h2:∀ u,u∈t.args→u.Lf S):t.Lf S:=by cases t with | mk n a p=>exact .mk n a p h1 h2
theorem Ty.Lf.mono {S T:Str→Prop} {t:Ty} (h:t.Lf S)(hs:∀ n,S n→T n):t.Lf T:=by
 induction t using Ty.induct with
 | h t ih=>exact .of (fun ha=>hs _ (h.name ha)) fun u hu=>ih u hu (h.arg u hu)
def C3q (vars:List Str)(args:List Ty)(n:Str):Option Ty:=if 0≤A1b n vars 0∧A1b n vars 0 < args.length then args[(A1b n vars 0).toNat]? else none
theorem B6y (vars:List Str)(args:List Ty)(t:Ty):t.subst vars args=match (if t.args=[] then C3q vars args t.name else none) with
  | some u=>.mk u.name u.args t.pos
  | none=>.mk t.name (t.args.map (Ty.subst vars args)) t.pos:=by
 rw [A4n];unfold C3q;by_cases ha:t.args=[]
 ·rw [if_pos ha];by_cases hc:0≤A1b t.name vars 0∧A1b t.name vars 0 < args.length
  ·have hlt:(A1b t.name vars 0).toNat < args.length:=by omega
   rw [if_pos ⟨by rw [ha];rfl,hc⟩,if_pos hc,List.getElem?_eq_getElem hlt];rfl
  ·rw [if_neg fun h=>hc h.2,if_neg hc]
 ·rw [if_neg ha,if_neg fun h=>ha (List.eq_nil_of_length_eq_zero h.1)]
theorem E3t {vars:List Str} {args:List Ty} {t u:Ty} (ha:t.args=[])(h:C3q vars args t.name=some u):t.subst vars args=.mk u.name u.args t.pos:=by rw [B6y,if_pos ha,h]
theorem C5u {vars:List Str} {args:List Ty} {t:Ty} (h:t.args=[]→C3q vars args t.name=none):t.subst vars args=.mk t.name (t.args.map (Ty.subst vars args)) t.pos:=by
 rw [B6y];by_cases ha:t.args=[]
 ·rw [if_pos ha,h ha]
 ·rw [if_neg ha]
theorem C3p {vars:List Str} {args:List Ty} {n:Str} (h:n ∉ vars):C3q vars args n=none:=by
 unfold C3q;rcases A5k n vars 0 with ⟨h1,_⟩ | ⟨k,h1,h2⟩
 ·rw [if_neg (by omega)]
 ·exact absurd (List.mem_of_getElem? h1) h
theorem E0f {vars:List Str} {args:List Ty} {n:Str} (h:n∈vars)(hl:vars.length≤args.length):∃ (k:Nat)(u:Ty),A1b n vars 0=k∧vars[k]? = some n∧args[k]? = some u∧C3q vars args n=some u:=by
 unfold C3q;rcases A5k n vars 0 with ⟨_,h2⟩ | ⟨k,h1,h2⟩
 ·exact absurd h h2
 ·have hk:=(List.getElem?_eq_some_iff.1 h1).1;have hk2:k < args.length:=by omega
  refine⟨k,args[k],by rw [h2];simp,h1,List.getElem?_eq_getElem hk2,?_⟩;rw [h2,if_pos (by omega)];simp only [Nat.zero_add,Int.toNat_natCast];exact List.getElem?_eq_getElem hk2
theorem E7y {vars:List Str} {args:List Ty} {n:Str} {u:Ty} (h:C3q vars args n=some u):n∈vars∧u∈args:=by
 have h1:u∈args:=by
  unfold C3q at h;split at h
  ·exact List.mem_of_getElem? h
  ·cases h
 refine⟨Decidable.byContradiction fun hn=>?_,h1⟩;rw [C3p hn] at h;cases h
theorem D2g (n:Str):∀ (v:List Str)(i:Nat),A1b n v i=if n∈v then A1b n v 0+i else -1:=by
 intro v
 induction v with
 | nil=>intro i;rfl
 | cons x v ih =>
  intro i;rw [A1b,A1b];by_cases hx:n=x
  ·rw [if_pos hx,if_pos hx,if_pos (by simp [hx])];simp
  ·rw [if_neg hx,if_neg hx,ih (i+1),ih (0+1)];simp only [List.mem_cons,hx,false_or];split <;> omega
theorem E9f {α:Type} (p:α→Bool)(x:α)(l:List α):B0h p (x::l)=if p x=true then 0 else if B0h p l = -1 then -1 else B0h p l+1:=by
 unfold B0h;rw [List.findIdx?_cons];by_cases hx:p x=true
 ·rw [if_pos hx,if_pos hx];rfl
 ·rw [if_neg hx,if_neg hx];cases l.findIdx? p with
  | none=>simp
  | some j=>simp only [Option.map_some];rw [if_neg (by omega)];omega
theorem C0h {α:Type} (g:α→Str)(nm:Str):∀ l:List α,B0h (fun f=>decide (g f=nm)) l=A1b nm (l.map g) 0
 | []=>rfl
 | x::l=>by
  rw [E9f,C0h g nm l,List.map_cons,A1b,D2g nm (l.map g) (0+1)];by_cases hx:nm=g x
  ·rw [if_pos hx,if_pos (by simp [hx])];rfl
  ·rw [if_neg hx,if_neg (by simpa using fun h=>hx h.symm)];rcases A5k nm (l.map g) 0 with ⟨h1,h2⟩ | ⟨k,h1,h2⟩
   ·rw [if_pos h1,if_neg h2]
   ·rw [if_neg (by omega),if_pos (List.mem_of_getElem? h1)];omega
def Sig.Lf (S:Str→Prop)(s:Sig):Prop:=(∀ f,f∈s.formals→f.bound.Lf S)∧(∀ f,f∈s.params→f.type.Lf S)∧s.result.Lf S
theorem Sig.Lf.mono {S T:Str→Prop} {s:Sig} (h:s.Lf S)(hs:∀ n,S n→T n):s.Lf T:=⟨fun f hf=>(h.1 f hf).mono hs,fun f hf=>(h.2.1 f hf).mono hs,h.2.2.mono hs⟩
def F6i (n:Str):Prop:=∃ i,n=A1x i
structure Sig.Cn (s:Sig):Prop where
 fs:A0d s.formals=(List.range s.formals.length).map A1x
 ps:∀ f,f∈s.params→f.name=[]
theorem Sig.Cn.subst {s:Sig} (h:s.Cn)(v:List Str)(a:List Ty):(s.subst v a).Cn:=by
 refine⟨?_,fun f hf=>?_⟩
 ·simp only [Sig.subst,List.length_map];rw [← h.fs];simp only [A0d,List.map_map];rfl
 ·simp only [Sig.subst] at hf;obtain⟨g,hg,rfl⟩:=List.mem_map.1 hf;exact h.ps g hg
theorem B4v {n:Nat} (t:Ty):t.subst ((List.range n).map A1x) (A1g n)=t:=by
 induction t using Ty.induct with
 | h t ih =>
 rw [B6y];cases hu:(if t.args=[] then C3q ((List.range n).map A1x) (A1g n) t.name else none) with
 | none =>simp only;rw [List.map_congr_left (g:=id) fun u hu=>ih u hu];cases t;simp [Ty.name,Ty.args,Ty.pos]
 | some u =>
  split at hu
  ·rename_i ha;obtain⟨k,w,h1,h2,h3,h4⟩:=E0f (E7y hu).1 (args:=A1g n) (by simp [A1g]);rw [h4] at hu;simp only [Option.some.injEq] at hu;subst hu;have hk:k < n:=by have:=(List.getElem?_eq_some_iff.1 h3).1;simpa [A1g] using this
   have e1:t.name=A1x k:=by rw [List.getElem?_map,List.getElem?_range hk] at h2;simpa using h2.symm
   have e2:w=B8p k:=by unfold A1g at h3;rw [List.getElem?_map,List.getElem?_range hk] at h3;simpa using h3.symm
   subst e2;cases t;simp only [Ty.name,Ty.args,Ty.pos] at *;subst ha;subst e1;rfl
  ·cases hu
theorem Sig.Cn.canon {s:Sig} (h:s.Cn):s.canon=s:=by
 cases s with | mk nm fs ps r q =>
 have hf:=h.fs;have hp:=h.ps;simp only [] at hf hp;simp only [Sig.canon,Sig.mk.injEq,true_and,and_true,C9y,C9f];rw [hf];refine⟨?_,?_,B4v _⟩
 ·refine List.ext_getElem? fun i=>?_;rw [List.getElem?_mapIdx];cases h:fs[i]? with
  | none=>rfl
  | some f =>
   have hi:=(List.getElem?_eq_some_iff.1 h).1;have hn:(A0d fs)[i]? = some f.name:=by unfold A0d;rw [List.getElem?_map,h];rfl
   rw [hf,List.getElem?_map,List.getElem?_range hi] at hn;simp only [Option.map_some,Option.some.injEq] at hn;simp only [Option.map_some,B4v,if_pos hi,hn]
 ·refine List.ext_getElem? fun i=>?_;rw [List.getElem?_mapIdx];cases h:ps[i]? with
  | none=>rfl
  | some f =>have hi:=(List.getElem?_eq_some_iff.1 h).1;simp only [Option.map_some,B4v,if_pos hi,← hp f (List.mem_of_getElem? h)]
end Go.Abs
/- a program whose heads are in order: what substitution of types keeps: fields, method sets, implementing, well-formedness -/
namespace Go.Abs
set_option linter.unusedSimpArgs false
set_option linter.unusedVariables false
open Go Go.Proofs
set_option maxRecDepth 100000
set_option maxHeartbeats 1000000
structure PW (p:Prog):Prop where
 name:∀ n,A1z p n≠0→¬ F6i n
 bnd:∀ x d,A5f p x=some d→∀ f,f∈d.formals→f.bound.Lf fun n=>n∈A0d d.formals∨A1z p n≠0
 fld:∀ x d,A5f p x=some d→d.kind=1→∀ f,f∈d.fields→f.type.Lf fun n=>n∈A0d d.formals∨A1z p n≠0
 spc:∀ x d,A5f p x=some d→d.kind=2→∀ s,s∈d.sigs→s.Lf fun n=>n∈A0d s.formals∨(n∈A0d d.formals∨A1z p n≠0)
 mth:∀ d,d∈p.decls→d.kind=3→d.sig.Lf fun n=>n∈A0d d.sig.formals∨(n∈d.vars∨A1z p n≠0)
structure Sb (p:Prog)(env env':List Formal)(v:List Str)(a:List Ty):Prop where
 names:v=A0d env
 len:a.length=v.length
 fresh:∀ n,n∈v→A1z p n=0∧¬ F6i n
 fresh':∀ n,n∈A0d env'→A1z p n=0
 clean:∀ u,u∈a→u.Lf fun n=>¬ F6i n
 iface:∀ f,f∈env→A8n p env f.bound=true
 bnd:∀ (i:Nat) (f:Formal) (u:Ty),env[i]? = some f→a[i]? = some u→A5x p env' u (f.bound.subst v a)=true
theorem C1v {p:Prog} {env:List Formal} {t:Ty} (h:∀ n,n∈A0d env→A1z p n=0)(hk:A1z p t.name≠0):A1i env t=none:=by
 unfold A1i;rw [if_pos];unfold A3u;split
 ·rcases A2w (fun f:Formal=>decide (f.name=t.name)) env with ⟨h1,_⟩ | ⟨j,x,_,h2,h3⟩
  ·omega
  ·have:=h x.name (List.mem_map.2 ⟨x,List.mem_of_getElem? h2,rfl⟩);simp only [decide_eq_true_eq] at h3;rw [h3] at this;exact absurd this hk
 ·omega
theorem D7f {env:List Formal} {t b:Ty} (h:A1i env t=some b):∃ (k:Nat)(f:Formal),env[k]? = some f∧b=f.bound∧t.args=[]∧A1b t.name (A0d env) 0=k∧f.name=t.name:=by
 unfold A1i at h;split at h
 ·cases h
 ·rename_i hn;unfold A3u at h hn;split at hn
  ·rename_i ha;rw [if_pos ha] at h;rw [C0h] at h hn;rcases C1y env t.name with h1 | ⟨k,f,hf,he,hk⟩
   ·unfold A0d at h1;rw [h1] at hn;exact absurd (by decide) hn
   ·unfold A0d at hk;rw [hk,Int.toNat_natCast,hf] at h;simp only [Option.map_some,Option.some.injEq] at h;exact⟨k,f,hf,h.symm,List.eq_nil_of_length_eq_zero ha,hk,he⟩
  ·exact absurd (by decide) hn
theorem D8e {env:List Formal} {t:Ty} (h:A1i env t=none)(ha:t.args=[]):t.name ∉ A0d env:=by
 intro hm;unfold A1i A3u at h;have ha0:t.args.length=0:=by rw [ha];rfl
 rw [if_pos ha0,C0h] at h;rcases C1y env t.name with h1 | ⟨k,f,hf,he,hk⟩
 ·rcases A5k t.name (A0d env) 0 with ⟨_,h2⟩ | ⟨k,h2,h3⟩
  ·exact h2 hm
  ·omega
 ·unfold A0d at hk;rw [hk,if_neg (by omega),Int.toNat_natCast,hf] at h;cases h
theorem A7d {p:Prog} {t:Ty} {k:Int} (h:A1w p t k=true):A1z p t.name=k∧(A1f p t.name).length=t.args.length:=by unfold A1w at h;simpa using h
theorem G0s {p:Prog} {t u:Ty} {k:Int} (h:A1w p t k=true)(hn:u.name=t.name)(hl:u.args.length=t.args.length):A1w p u k=true:=by unfold A1w at *;rw [hn,hl];exact h
section
variable {p:Prog} {env env':List Formal} {v:List Str} {a:List Ty}
theorem Sb.node (sb:Sb p env env' v a) {t:Ty} (h:A1i env t=none):t.subst v a=.mk t.name (t.args.map (Ty.subst v a)) t.pos :=
 C5u fun ha=>C3p (by rw [sb.names];exact D8e h ha)
theorem Sb.envf (sb:Sb p env env' v a):∀ n,n∈A0d env→A1z p n=0:=fun n hn=>(sb.fresh n (by rw [sb.names];exact hn)).1
theorem Sb.inst (sb:Sb p env env' v a) {t:Ty} {k:Int} (hk:k≠0)(h:A1w p t k=true):t.subst v a=.mk t.name (t.args.map (Ty.subst v a)) t.pos∧A1w p (t.subst v a) k=true∧A1i env t=none∧A1i env' (t.subst v a)=none:=by
 have hn:=(A7d h).1;have hb:=C1v (t:=t) sb.envf (by rw [hn];exact hk);have he:=sb.node hb;refine⟨he,?_,hb,?_⟩
 ·rw [he];exact G0s h rfl (by simp [mkA])
 ·rw [he];exact C1v sb.fresh' (by rw [mkN,hn];exact hk)
theorem Sb.var (sb:Sb p env env' v a) {t b:Ty} (h:A1i env t=some b):∃ (k:Nat)(f:Formal)(u:Ty),env[k]? = some f∧b=f.bound∧t.args=[]∧a[k]? = some u∧t.subst v a=.mk u.name u.args t.pos:=by
 obtain⟨k,f,h1,h2,h3,h4,h5⟩:=D7f h;have hm:t.name∈v:=by rw [sb.names,← h5];exact List.mem_map.2 ⟨f,List.mem_of_getElem? h1,rfl⟩
 obtain⟨k',u,g1,g2,g3,g4⟩:=E0f hm (args:=a) (by rw [sb.len];exact Nat.le_refl _);have:k'=k:=by rw [sb.names,h4] at g1;omega
 subst this;exact⟨k',f,u,h1,h2,h3,g3,E3t h3 g4⟩
theorem Sb.out (sb:Sb p env env' v a) {n:Str} (h:F6i n∨A1z p n≠0):n ∉ v:=fun hn=>by
 obtain⟨h1,h2⟩:=sb.fresh n hn;rcases h with h | h
 ·exact h2 h
 ·exact h h1
end
section
variable {p:Prog} {env env':List Formal} {v:List Str} {a:List Ty}
end
end Go.Abs
/- typing: inversion; what a substitution of types and of values keeps -/
namespace Go.Abs
set_option linter.unusedSimpArgs false
set_option linter.unusedVariables false
open Go Go.Proofs
set_option maxRecDepth 100000
set_option maxHeartbeats 1000000
section
variable {p:Prog} {env env':List Formal} {v:List Str} {a:List Ty}
end
end Go.Abs
/- a step keeps the type of an expression, or makes it smaller -/
namespace Go.Abs
set_option linter.unusedSimpArgs false
set_option linter.unusedVariables false
open Go Go.Proofs
set_option maxRecDepth 100000
set_option maxHeartbeats 1000000
def HW (p:Prog):Prop:=∀ (i:Nat)(d:Decl),p.decls[i]? = some d→E9v p i d=none
theorem D2x {p:Prog} {x:Ty} {s:Sig} (hx:A1w p x 1=true)(hs:s∈C7a p [] x):∃ d,d∈p.decls∧d.kind=3∧d.name=x.name∧d.vars.length=x.args.length∧s=d.sig.canon.subst d.vars x.args∧A8q p x s.name=some d:=by
 unfold C7a at hs;have hb:A1i [] x=none:=by unfold A1i A3u;split <;> simp [B0h]
 rw [hb] at hs;simp only [Option.getD_none,Option.isSome_none,Bool.false_eq_true,if_false] at hs;have h2:¬ A1w p x 2=true:=fun h=>by have:=(A7d h).1;have:=(A7d hx).1;omega
 rw [if_neg h2] at hs;unfold A5y at hs;rw [List.mem_map] at hs;obtain⟨⟨d,i⟩,hd,rfl⟩:=hs;rw [List.mem_filter] at hd;have hm:=hd.2;unfold B2k at hm;simp only [Bool.and_eq_true,decide_eq_true_eq] at hm;obtain⟨⟨hk,hn⟩,hmp⟩:=hm;have hdi:p.decls[i]? = some d:=by have:=hd.1;rw [List.take_length] at this;obtain⟨_,h2,h3⟩:=List.mem_zipIdx this;simp only [Nat.sub_zero] at h3;rw [h3];exact List.getElem?_eq_getElem _
 have hfi:B1c p x.name d.sig.name=(i:Int)∧d.vars.length=x.args.length:=by
  unfold B0q at hmp;rw [if_pos hx] at hmp;split at hmp
  ·rename_i d' hd';split at hmp
   ·rename_i hc;rw [hmp,Int.toNat_natCast,hdi] at hd';cases hd';exact⟨hmp,hc.2⟩
   ·omega
  ·omega
 refine⟨d,List.mem_of_getElem? hdi,hk,hn,hfi.2,rfl,?_⟩;show A8q p x d.sig.name=some d;unfold A8q;rw [if_pos hx];have hf:p.decls.find? (B9w x.name d.sig.name)=some d:=by
  unfold B1c B0h at hfi;cases h:p.decls.findIdx? (B9w x.name d.sig.name) with
  | none=>rw [h] at hfi;have:=hfi.1;simp only at this;omega
  | some j =>
   rw [h] at hfi;have hj:j=i:=by have:=hfi.1;simp only at this;omega
   subst hj;obtain⟨h1,h2,h3⟩:=List.findIdx?_eq_some_iff_getElem.1 h;have hdj:p.decls[j]=d:=by rw [List.getElem?_eq_getElem h1] at hdi;simpa using hdi
   rw [List.find?_eq_some_iff_getElem];refine⟨by rw [hdj] at h2;exact h2,j,h1,hdj,fun k hk=>?_⟩;have:=h3 k hk;simpa using this
 rw [hf];simp only [hfi.2,if_true]
section
variable {p:Prog}
structure Called (p:Prog)(d:Decl)(x:Ty)(targs:List Ty):Prop where
 sb:Sb p (D0s p d++d.sig.formals) [] (d.vars++A0d d.sig.formals) (x.args++targs)
 wf:∀ u,u∈x.args++targs→chk p [] u=none
 self:((G1c d).subst (d.vars++A0d d.sig.formals) (x.args++targs)).er=x.er
 inst:∀ b:Ty,chk p (D0s p d++d.sig.formals) b=none→((b.subst (A0d d.sig.formals) (A1g d.sig.formals.length)).subst d.vars x.args).subst (A0d d.sig.canon.formals) targs=b.subst (d.vars++A0d d.sig.formals) (x.args++targs)
end
end Go.Abs
