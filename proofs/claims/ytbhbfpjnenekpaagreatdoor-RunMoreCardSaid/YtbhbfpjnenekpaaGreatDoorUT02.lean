/- layer 13's plain laws: implementing is reflexive and transitive; a declaration's own type is well formed -/
import Derived.Test.YtbhbfpjnenekpaaGreatDoorUS25
import Derived.Test.YtbhbfpjnenekpaaGreatDoorUS36
import Derived.Test.YtbhbfpjnenekpaaGreatDoorUS56
namespace Go.Abs
set_option linter.unusedSimpArgs false
set_option linter.unusedVariables false
open Go Go.Proofs
set_option maxRecDepth 100000
set_option maxHeartbeats 1000000
mutual
def Ty.er:Ty→Ty
 | .mk n a _=>.mk n (Ty.erL a) 0
def Ty.erL:List Ty→List Ty
 | []=>[]
 | t::ts=>t.er::Ty.erL ts
end
theorem erL_map:∀ l:List Ty,Ty.erL l=l.map Ty.er
 | []=>by rw [Ty.erL];rfl
 | t::l=>by rw [Ty.erL,erL_map l];rfl
theorem er_eq (t:Ty):t.er=.mk t.name (t.args.map Ty.er) 0:=by
 cases t with | mk n a p=>rw [Ty.er,erL_map];rfl
theorem mkN (n:Str)(a:List Ty)(p:Int):(Ty.mk n a p).name=n:=rfl
theorem mkA (n:Str)(a:List Ty)(p:Int):(Ty.mk n a p).args=a:=rfl
theorem mkQ (n:Str)(a:List Ty)(p:Int):(Ty.mk n a p).pos=p:=rfl
theorem er_name (t:Ty):t.er.name=t.name:=by rw [er_eq];rfl
theorem er_args (t:Ty):t.er.args=t.args.map Ty.er:=by rw [er_eq];rfl
theorem cmpTL_er:∀ l m:List Ty,(∀ t,t∈l→∀ u,cmpT t u=0↔t.er=u.er)→(cmpTL l m=0↔l.map Ty.er=m.map Ty.er)
 | [],[],_=>by simp [cmpTL]
 | [],_::_,_=>by simp [cmpTL]
 | _::_,[],_=>by simp [cmpTL]
 | x::xs,y::ys,h=>by
  have h1:=h x (by simp) y
  have h2:=cmpTL_er xs ys fun t ht=>h t (by simp [ht])
  rw [cmpTL]
  by_cases hc:cmpT x y=0
  ·rw [if_neg (by simp [hc]),h2]
   simp [h1.1 hc]
  ·rw [if_pos hc]
   have:¬ x.er=y.er:=fun hh=>hc (h1.2 hh)
   simp [hc,this]
theorem cmpT_er (t:Ty):∀ u,cmpT t u=0↔t.er=u.er:=by
 induction t using Ty.induct with
 | h t ih =>
 intro u
 have h2:=cmpTL_er t.args u.args ih
 rw [cmpT_eq,er_eq t,er_eq u]
 by_cases hn:t.name=u.name
 ·rw [if_neg (by simp [cmpS_zero.2 hn]),h2]
  simp [hn]
 ·have:¬ cmpS t.name u.name=0:=fun hh=>hn (cmpS_zero.1 hh)
  rw [if_pos this]
  simp [this,hn]
theorem sameT_er (t u:Ty):sameT t u=true↔t.er=u.er:=by
 unfold sameT;rw [decide_eq_true_eq];exact cmpT_er t u
def Formal.er (f:Formal):Formal:=⟨f.name,f.bound.er,0⟩
def Param.er (f:Param):Param:=⟨f.name,f.type.er,0⟩
def Sig.er (s:Sig):Sig:=⟨s.name,s.formals.map Formal.er,s.params.map Param.er,s.result.er,0⟩
theorem sameFo_er (a b:Formal):sameFo a b=true↔a.er=b.er:=by
 unfold sameFo Formal.er
 rw [Bool.and_eq_true,sameT_er,decide_eq_true_eq,Formal.mk.injEq];simp
theorem samePa_er (a b:Param):samePa a b=true↔a.er=b.er:=by
 unfold samePa Param.er
 rw [Bool.and_eq_true,sameT_er,decide_eq_true_eq,Param.mk.injEq];simp
theorem eqL_er {α β:Type} {p:α→α→Bool} {e:α→β} (h:∀ a b,p a b=true↔e a=e b):∀ l m:List α,eqL p l m=true↔l.map e=m.map e
 | [],[]=>by simp [eqL]
 | [],_::_=>by simp [eqL]
 | _::_,[]=>by simp [eqL]
 | x::xs,y::ys=>by
  rw [eqL,Bool.and_eq_true,h,eqL_er h xs ys];simp
theorem sameSi_er (a b:Sig):sameSi a b=true↔a.er=b.er:=by
 unfold sameSi Sig.er
 rw [Bool.and_eq_true,Bool.and_eq_true,Bool.and_eq_true,sameT_er,decide_eq_true_eq,eqL_er sameFo_er,eqL_er samePa_er,Sig.mk.injEq]
 simp [and_assoc]
theorem subst_er (vars:List Str)(args:List Ty)(t:Ty):(t.subst vars args).er=t.er.subst vars (args.map Ty.er):=by
 induction t using Ty.induct with
 | h t ih =>
 rw [subst_eq,subst_eq vars (args.map Ty.er) t.er,er_name,er_args,List.length_map,List.length_map]
 by_cases hc:t.args.length=0∧0≤indexS t.name vars 0∧indexS t.name vars 0 < args.length
 ·have hlt:(indexS t.name vars 0).toNat < args.length:=by omega
  rw [if_pos hc,if_pos hc,er_eq,mkN,mkA]
  rw [List.getElem?_map,List.getElem?_eq_getElem hlt,Option.map_some,Option.getD_some,Option.getD_some]
  generalize args[(indexS t.name vars 0).toNat]=u
  rw [er_eq u,er_eq t];rfl
 ·rw [if_neg hc,if_neg hc,er_eq,mkN,mkA,List.map_map,List.map_map]
  rw [er_eq t,mkQ]
  congr 1
  refine List.map_congr_left fun u hu=>?_
  exact ih u hu
theorem fosubst_er (vars:List Str)(args:List Ty)(f:Formal):(f.subst vars args).er=f.er.subst vars (args.map Ty.er):=by
 simp only [Formal.subst,Formal.er,subst_er]
theorem pasubst_er (vars:List Str)(args:List Ty)(f:Param):(f.subst vars args).er=f.er.subst vars (args.map Ty.er):=by
 simp only [Param.subst,Param.er,subst_er]
theorem sisubst_er (vars:List Str)(args:List Ty)(s:Sig):(s.subst vars args).er=s.er.subst vars (args.map Ty.er):=by
 simp only [Sig.subst,Sig.er,subst_er,List.map_map,Sig.mk.injEq,and_true,true_and]
 exact⟨List.map_congr_left fun u _=>fosubst_er vars args u,List.map_congr_left fun u _=>pasubst_er vars args u⟩
theorem fnames_er (l:List Formal):fnames (l.map Formal.er)=fnames l:=by
 simp only [fnames,List.map_map];rfl
theorem localTs_er (n:Nat):(localTs n).map Ty.er=localTs n:=by
 simp only [localTs,List.map_map]
 refine List.map_congr_left fun i _=>?_
 simp only [Function.comp,localT]
 rw [er_eq];rfl
theorem canon_er (s:Sig):s.canon.er=s.er.canon:=by
 simp only [Sig.canon,Sig.er,Sig.mk.injEq,true_and,and_true]
 refine⟨?_,?_,?_⟩
 ·refine List.ext_getElem? fun i=>?_
  simp only [canF,Sig.formals,List.getElem?_map,List.getElem?_mapIdx,fnames_er,List.length_map]
  cases s.formals[i]? with
  | none=>rfl
  | some f=>simp only [Option.map_some,Formal.er,subst_er,localTs_er]
 ·refine List.ext_getElem? fun i=>?_
  simp only [canP,Sig.formals,Sig.params,List.getElem?_map,List.getElem?_mapIdx,fnames_er,List.length_map]
  cases s.params[i]? with
  | none=>rfl
  | some f=>simp only [Option.map_some,Param.er,subst_er,localTs_er]
 ·rw [subst_er,localTs_er,fnames_er,List.length_map]
theorem nodup_name {l:List Sig} (hn:(l.map (·.name)).Nodup) {s t:Sig} (hs:s∈l)(ht:t∈l)(h:s.name=t.name):s=t:=by
 induction l with
 | nil=>simp at hs
 | cons x l ih =>
  rw [List.map_cons,List.nodup_cons] at hn
  rcases List.mem_cons.1 hs with e1 | hs1
  ·rcases List.mem_cons.1 ht with e2 | ht1
   ·rw [e1,e2]
   ·exact absurd (show x.name∈l.map (·.name) from List.mem_map.2 ⟨t,ht1,by rw [← h,e1]⟩) hn.1
  ·rcases List.mem_cons.1 ht with e2 | ht1
   ·exact absurd (show x.name∈l.map (·.name) from List.mem_map.2 ⟨s,hs1,by rw [h,e2]⟩) hn.1
   ·exact ih hn.2 hs1 ht1
theorem missB_iff {l:List Sig} (hn:(l.map (·.name)).Nodup)(w:Sig):missB l w=false↔∃ s,s∈l∧s.name=w.name∧s.canon.er=w.canon.er:=by
 unfold missB nameI
 rcases idxF_cases (fun s:Sig=>decide (s.name=w.name)) l with ⟨h1,h2⟩ | ⟨j,x,h1,h2,h3⟩
 ·rw [h1,if_pos (by decide)]
  constructor
  ·intro h;cases h
  ·rintro⟨s,hs,he,_⟩
   have:=h2 s hs
   simp [he] at this
 ·rw [h1,if_neg (by omega),Int.toNat_natCast,h2,Option.getD_some]
  have hx:=List.mem_of_getElem? h2
  have hxn:x.name=w.name:=by simpa using h3
  constructor
  ·intro h
   refine⟨x,hx,hxn,(sameSi_er _ _).1 ?_⟩
   cases hh:sameSi x.canon w.canon with
   | true=>rfl
   | false=>rw [hh] at h;cases h
  ·rintro⟨s,hs,he,hc⟩
   obtain rfl:=nodup_name hn hs hx (he.trans hxn.symm)
   rw [(sameSi_er _ _).2 hc];rfl
theorem cov_iff {l:List Sig} (hn:(l.map (·.name)).Nodup)(m:List Sig):missL l m=[]↔∀ w,w∈m→∃ s,s∈l∧s.name=w.name∧s.canon.er=w.canon.er:=by
 unfold missL
 rw [List.map_eq_nil_iff,List.filter_eq_nil_iff]
 refine forall_congr' fun w=>forall_congr' fun _=>?_
 rw [← missB_iff hn w];simp
theorem cov_er {l m:List Sig} (h:l.map Sig.er=m.map Sig.er):∀ w,w∈m→∃ s,s∈l∧s.name=w.name∧s.canon.er=w.canon.er:=by
 intro w hw
 have:w.er∈l.map Sig.er:=by rw [h];exact List.mem_map.2 ⟨w,hw,rfl⟩
 obtain⟨s,hs,he⟩:=List.mem_map.1 this
 refine⟨s,hs,?_,by rw [canon_er,canon_er,he]⟩
 have:s.er.name=w.er.name:=by rw [he]
 exact this
theorem er_inj {x y:Ty} (h:x.er=y.er):x.name=y.name∧x.args.map Ty.er=y.args.map Ty.er∧x.args.length=y.args.length:=by
 have h1:x.er.name=y.er.name:=by rw [h]
 have h2:x.er.args=y.er.args:=by rw [h]
 rw [er_name,er_name] at h1
 rw [er_args,er_args] at h2
 exact⟨h1,h2,by have:=congrArg List.length h2;simpa using this⟩
theorem findV_er {env:List Formal} {x y:Ty} (h:x.er=y.er):findV env x=findV env y:=by
 obtain⟨h1,_,h3⟩:=er_inj h
 unfold findV;rw [h1,h3]
theorem boundV_er {env:List Formal} {x y:Ty} (h:x.er=y.er):boundV env x=boundV env y:=by
 unfold boundV;rw [findV_er h]
theorem instB_er {p:Prog} {x y:Ty} {k:Int} (h:x.er=y.er):instB p x k=instB p y k:=by
 obtain⟨h1,_,h3⟩:=er_inj h
 unfold instB;rw [h1,h3]
theorem isIface_er {p:Prog} {env:List Formal} {x y:Ty} (h:x.er=y.er):isIface p env x=isIface p env y:=by
 unfold isIface;rw [instB_er h,boundV_er h]
theorem specL_er {vars:List Str} {a b:List Ty} (h:a.map Ty.er=b.map Ty.er)(l:List Sig)(j:Nat):(specL vars a l j).map Sig.er=(specL vars b l j).map Sig.er:=by
 unfold specL
 rw [List.map_map,List.map_map]
 refine List.map_congr_left fun s _=>?_
 simp only [Function.comp,sisubst_er,h]
theorem specsT_er {p:Prog} {x y:Ty} (h:x.er=y.er):(specsT p x).map Sig.er=(specsT p y).map Sig.er:=by
 obtain⟨h1,h2,_⟩:=er_inj h
 unfold specsT
 rw [instB_er h,h1]
 split
 ·exact specL_er h2 _ _
 ·rfl
theorem methB_er {p:Prog} {x y:Ty} (h:x.er=y.er):methB p x=methB p y:=by
 obtain⟨h1,_,h3⟩:=er_inj h
 funext d i
 unfold methB methP
 rw [instB_er h,h1,h3]
theorem methL_er {p:Prog} {x y:Ty} (h:x.er=y.er)(j:Nat):(methL p x j).map Sig.er=(methL p y j).map Sig.er:=by
 unfold methL
 rw [methB_er h,List.map_map,List.map_map]
 refine List.map_congr_left fun s _=>?_
 simp only [Function.comp,sisubst_er,(er_inj h).2.1]
theorem setU_er {p:Prog} {env:List Formal} {x y:Ty} (h:x.er=y.er):(setU p env x).map Sig.er=(setU p env y).map Sig.er:=by
 unfold setU
 rw [boundV_er h]
 cases boundV env y with
 | some b=>rfl
 | none =>
  simp only [Option.getD_none,Option.isSome_none,Bool.false_eq_true,if_false]
  rw [instB_er h]
  split
  ·exact specsT_er h
  ·exact methL_er h _
theorem setU_names (p:Prog)(env:List Formal)(x:Ty):((setU p env x).map (·.name)).Nodup:=by
 unfold setU
 split
 ·exact specsT_names p _
 ·split
  ·simp
  ·exact (methL_names p _ _ (Nat.le_refl _)).1
theorem setT_names (p:Prog)(env:List Formal)(x:Ty):((setT p env x).map (·.name)).Nodup :=
 (((sortSi_perm (setU p env x)).map _).nodup_iff).2 (setU_names p env x)
theorem mem_setT {p:Prog} {env:List Formal} {x:Ty} {s:Sig}:s∈setT p env x↔s∈setU p env x:=(sortSi_perm _).mem_iff
theorem covT_iff {p:Prog} {env:List Formal} {x y:Ty}:missL (setT p env x) (setT p env y)=[]↔∀ w,w∈setU p env y→∃ s,s∈setU p env x∧s.name=w.name∧s.canon.er=w.canon.er:=by
 rw [cov_iff (setT_names p env x)]
 simp only [mem_setT]
theorem implB_refl (p:Prog)(env:List Formal)(x:Ty):implB p env x x=true:=by
 unfold implB
 split
 ·rw [decide_eq_true_eq,covT_iff]
  exact fun w hw=>⟨w,hw,rfl,rfl⟩
 ·exact (sameT_er x x).2 rfl
theorem implB_trans {p:Prog} {env:List Formal} {x y z:Ty} (h1:implB p env x y=true)(h2:implB p env y z=true):implB p env x z=true:=by
 unfold implB at *
 by_cases hz:isIface p env z=true
 ·rw [if_pos hz] at h2 ⊢
  rw [decide_eq_true_eq,covT_iff] at h2 ⊢
  have hxy:∀ w,w∈setU p env y→∃ s,s∈setU p env x∧s.name=w.name∧s.canon.er=w.canon.er:=by
   by_cases hy:isIface p env y=true
   ·rw [if_pos hy,decide_eq_true_eq,covT_iff] at h1
    exact h1
   ·rw [if_neg hy,sameT_er] at h1
    exact cov_er (setU_er h1)
  intro w hw
  obtain⟨s,hs,e1,e2⟩:=h2 w hw
  obtain⟨r,hr,e3,e4⟩:=hxy s hs
  exact⟨r,hr,e3.trans e1,e4.trans e2⟩
 ·rw [if_neg hz,sameT_er] at h2 ⊢
  have hy:¬ isIface p env y=true:=by rw [isIface_er h2];exact hz
  rw [if_neg hy,sameT_er] at h1
  exact h1.trans h2
theorem index_names (l:List Formal)(nm:Str):(indexS nm (fnames l) 0 = -1)∨∃ (k:Nat)(f:Formal),l[k]? = some f∧f.name=nm∧indexS nm (fnames l) 0=(k:Int):=by
 rcases indexS_find nm (fnames l) 0 with ⟨h,_⟩ | ⟨k,h1,h2⟩
 ·exact .inl h
 ·unfold fnames at h1
  rw [List.getElem?_map,Option.map_eq_some_iff] at h1
  obtain⟨f,hf,he⟩:=h1
  exact .inr ⟨k,f,hf,he,by rw [h2];simp⟩
end Go.Abs
/- substitution of types: composition, exchange; names that a type has -/
namespace Go.Abs
set_option linter.unusedSimpArgs false
set_option linter.unusedVariables false
open Go Go.Proofs
set_option maxRecDepth 100000
set_option maxHeartbeats 1000000
inductive Ty.Lf (S:Str→Prop):Ty→Prop where
 | mk (n:Str) (a:List Ty) (p:Int):(a=[]→S n)→(∀ t,t∈a→Ty.Lf S t)→Ty.Lf S (.mk n a p)
variable {t:Ty}
theorem Ty.Lf.name {S:Str→Prop} (h:t.Lf S)(ha:t.args=[]):S t.name:=by cases h with | mk n a p h1 h2=>exact h1 ha
theorem Ty.Lf.arg {S:Str→Prop} (h:t.Lf S):∀ u,u∈t.args→u.Lf S:=by cases h with | mk n a p h1 h2=>exact h2
theorem Ty.Lf.of {S:Str→Prop} (h1:t.args=[]→S t.name)(h2:∀ u,u∈t.args→u.Lf S):t.Lf S:=by cases t with | mk n a p=>exact .mk n a p h1 h2
theorem Ty.Lf.mono {S T:Str→Prop} (h:t.Lf S)(hs:∀ n,S n→T n):t.Lf T:=by
 induction t using Ty.induct with
 | h t ih=>exact .of (fun ha=>hs _ (h.name ha)) fun u hu=>ih u hu (h.arg u hu)
def lookN (vars:List Str)(args:List Ty)(n:Str):Option Ty:=if 0≤indexS n vars 0∧indexS n vars 0 < args.length then args[(indexS n vars 0).toNat]? else none
theorem subst_look (vars:List Str)(args:List Ty)(t:Ty):t.subst vars args=match (if t.args=[] then lookN vars args t.name else none) with
  | some u=>.mk u.name u.args t.pos
  | none=>.mk t.name (t.args.map (Ty.subst vars args)) t.pos:=by
 rw [subst_eq]
 unfold lookN
 by_cases ha:t.args=[]
 ·rw [if_pos ha]
  by_cases hc:0≤indexS t.name vars 0∧indexS t.name vars 0 < args.length
  ·have hlt:(indexS t.name vars 0).toNat < args.length:=by omega
   rw [if_pos ⟨by rw [ha];rfl,hc⟩,if_pos hc,List.getElem?_eq_getElem hlt]
   rfl
  ·rw [if_neg fun h=>hc h.2,if_neg hc]
 ·rw [if_neg ha,if_neg fun h=>ha (List.eq_nil_of_length_eq_zero h.1)]
theorem subst_leaf {vars:List Str} {args:List Ty} {t u:Ty} (ha:t.args=[])(h:lookN vars args t.name=some u):t.subst vars args=.mk u.name u.args t.pos:=by
 rw [subst_look,if_pos ha,h]
theorem subst_node {vars:List Str} {args:List Ty} (h:t.args=[]→lookN vars args t.name=none):t.subst vars args=.mk t.name (t.args.map (Ty.subst vars args)) t.pos:=by
 rw [subst_look]
 by_cases ha:t.args=[]
 ·rw [if_pos ha,h ha]
 ·rw [if_neg ha]
variable {n:Str}
theorem lookN_out {vars:List Str} {args:List Ty} (h:n ∉ vars):lookN vars args n=none:=by
 unfold lookN
 rcases indexS_find n vars 0 with ⟨h1,_⟩ | ⟨k,h1,h2⟩
 ·rw [if_neg (by omega)]
 ·exact absurd (List.mem_of_getElem? h1) h
theorem lookN_in {vars:List Str} {args:List Ty} (h:n∈vars)(hl:vars.length≤args.length):∃ (k:Nat)(u:Ty),indexS n vars 0=k∧vars[k]? = some n∧args[k]? = some u∧lookN vars args n=some u:=by
 unfold lookN
 rcases indexS_find n vars 0 with ⟨_,h2⟩ | ⟨k,h1,h2⟩
 ·exact absurd h h2
 ·have hk:=(List.getElem?_eq_some_iff.1 h1).1
  have hk2:k < args.length:=by omega
  refine⟨k,args[k],by rw [h2];simp,h1,List.getElem?_eq_getElem hk2,?_⟩
  rw [h2,if_pos (by omega)]
  simp only [Nat.zero_add,Int.toNat_natCast]
  exact List.getElem?_eq_getElem hk2
theorem lookN_mem {vars:List Str} {args:List Ty} {u:Ty} (h:lookN vars args n=some u):n∈vars∧u∈args:=by
 have h1:u∈args:=by
  unfold lookN at h
  split at h
  ·exact List.mem_of_getElem? h
  ·cases h
 refine⟨Decidable.byContradiction fun hn=>?_,h1⟩
 rw [lookN_out hn] at h;cases h
theorem lookN_map (f:Ty→Ty)(vars:List Str)(args:List Ty)(n:Str):lookN vars (args.map f) n=(lookN vars args n).map f:=by
 unfold lookN
 rw [List.length_map]
 split
 ·rw [List.getElem?_map]
 ·rfl
theorem subst_mkpos (v:List Str)(a:List Ty)(u:Ty)(q:Int):(Ty.mk u.name u.args q).subst v a=.mk (u.subst v a).name (u.subst v a).args q:=by
 by_cases ha:u.args=[]
 ·cases hw:lookN v a u.name with
  | some w=>rw [subst_leaf (t:=.mk u.name u.args q) (u:=w) ha hw,subst_leaf ha hw];rfl
  | none=>rw [subst_node (t:=.mk u.name u.args q) fun _=>hw,subst_node fun _=>hw];rfl
 ·rw [subst_node (t:=.mk u.name u.args q) fun h=>absurd h ha,subst_node (t:=u) fun h=>absurd h ha];rfl
theorem subst_comp (v1:List Str)(a1:List Ty)(v2:List Str)(a2:List Ty)(hl:v1.length≤a1.length)(t:Ty)(h:t.Lf fun n=>n∈v1∨n ∉ v2):(t.subst v1 a1).subst v2 a2=t.subst v1 (a1.map (Ty.subst v2 a2)):=by
 induction t using Ty.induct with
 | h t ih =>
 by_cases ha:t.args=[]
 ·by_cases hn:t.name∈v1
  ·obtain⟨k,u,_,_,_,hu⟩:=lookN_in hn hl
   rw [subst_leaf ha hu,subst_leaf (u:=u.subst v2 a2) ha (by rw [lookN_map,hu];rfl),subst_mkpos]
  ·have hn2:t.name ∉ v2:=(h.name ha).resolve_left hn
   have e1:∀ a,t.subst v1 a=t:=fun a=>by
    rw [subst_node fun _=>lookN_out hn,ha];cases t;simp only [Ty.args] at ha;subst ha;rfl
   rw [e1,e1,subst_node fun _=>lookN_out hn2,ha];cases t;simp only [Ty.args] at ha;subst ha;rfl
 ·rw [subst_node fun h=>absurd h ha,subst_node (t:=t) fun h=>absurd h ha,subst_node fun h=>absurd h (by simpa [mkA] using ha)]
  simp only [mkA,mkN,mkQ,List.map_map]
  congr 1
  exact List.map_congr_left fun u hu=>ih u hu (h.arg u hu)
theorem subst_id {v:List Str} {a:List Ty} (h:t.Lf fun n=>n ∉ v):t.subst v a=t:=by
 induction t using Ty.induct with
 | h t ih =>
 rw [subst_node fun ha=>lookN_out (h.name ha)]
 rw [List.map_congr_left (g:=id) fun u hu=>ih u hu (h.arg u hu)]
 cases t;simp [Ty.name,Ty.args,Ty.pos]
theorem subst_swap {v1:List Str} {a1:List Ty} {v2:List Str} {a2:List Ty} (hd:∀ n,n∈v1→n ∉ v2)(hc:∀ u,u∈a2→u.Lf fun n=>n ∉ v1)(t:Ty):(t.subst v1 a1).subst v2 a2=(t.subst v2 a2).subst v1 (a1.map (Ty.subst v2 a2)):=by
 induction t using Ty.induct with
 | h t ih =>
 by_cases ha:t.args=[]
 ·have e0:∀ v a,lookN v a t.name=none→t.subst v a=t:=fun v a hh=>by
   rw [subst_node fun _=>hh,ha];cases t;simp only [Ty.args] at ha;subst ha;rfl
  cases hu:lookN v1 a1 t.name with
  | some u =>
   have hn2:=hd _ (lookN_mem hu).1
   rw [e0 v2 a2 (lookN_out hn2),subst_leaf ha hu,subst_leaf (u:=u.subst v2 a2) ha (by rw [lookN_map,hu];rfl),subst_mkpos]
  | none =>
   rw [e0 v1 a1 hu]
   cases hw:lookN v2 a2 t.name with
   | some w =>
    have hwl:=hc w (lookN_mem hw).2
    rw [subst_leaf ha hw,subst_id]
    exact .of (fun h=>hwl.name h) fun x hx=>hwl.arg x hx
   | none =>
    rw [e0 v2 a2 hw,e0]
    rw [lookN_map,hu];rfl
 ·rw [subst_node fun h=>absurd h ha,subst_node (t:=t) fun h=>absurd h ha,subst_node fun h=>absurd h (by simpa [mkA] using ha),subst_node fun h=>absurd h (by simpa [mkA] using ha)]
  simp only [mkA,mkN,mkQ,List.map_map]
  congr 1
  exact List.map_congr_left fun u hu=>ih u hu
theorem Lf_subst {S T:Str→Prop} {v:List Str} {a:List Ty} (hn:∀ n,S n→lookN v a n=none→T n)(ha:∀ u,u∈a→u.Lf T) {t:Ty} (h:t.Lf S):(t.subst v a).Lf T:=by
 induction t using Ty.induct with
 | h t ih =>
 by_cases he:t.args=[]
 ·cases hu:lookN v a t.name with
  | some u =>
   rw [subst_leaf he hu]
   have:=ha u (lookN_mem hu).2
   exact .of (fun hh=>this.name hh) fun x hx=>this.arg x hx
  | none =>
   rw [subst_node fun _=>hu,he]
   exact .of (fun _=>hn _ (h.name he) hu) (by simp [mkA])
 ·rw [subst_node fun hh=>absurd hh he]
  refine .of (fun hh=>absurd hh (by simpa [mkA] using he)) fun x hx=>?_
  simp only [mkA,List.mem_map] at hx
  obtain⟨u,hu,rfl⟩:=hx
  exact ih u hu (h.arg u hu)
theorem indexS_shift (n:Str):∀ (v:List Str)(i:Nat),indexS n v i=if n∈v then indexS n v 0+i else -1:=by
 intro v
 induction v with
 | nil=>intro i;rfl
 | cons x v ih =>
  intro i
  rw [indexS,indexS]
  by_cases hx:n=x
  ·rw [if_pos hx,if_pos hx,if_pos (by simp [hx])];simp
  ·rw [if_neg hx,if_neg hx,ih (i+1),ih (0+1)]
   simp only [List.mem_cons,hx,false_or]
   split <;> omega
theorem idxN_cons {α:Type} (p:α→Bool)(x:α)(l:List α):idxF p (x::l)=if p x=true then 0 else if idxF p l = -1 then -1 else idxF p l+1:=by
 unfold idxF
 rw [List.findIdx?_cons]
 by_cases hx:p x=true
 ·rw [if_pos hx,if_pos hx];rfl
 ·rw [if_neg hx,if_neg hx]
  cases l.findIdx? p with
  | none=>simp
  | some j=>simp only [Option.map_some];rw [if_neg (by omega)];omega
theorem idx_names {α:Type} (g:α→Str)(nm:Str):∀ l:List α,idxF (fun f=>decide (g f=nm)) l=indexS nm (l.map g) 0
 | []=>rfl
 | x::l=>by
  rw [idxN_cons,idx_names g nm l,List.map_cons,indexS,indexS_shift nm (l.map g) (0+1)]
  by_cases hx:nm=g x
  ·rw [if_pos hx,if_pos (by simp [hx])];rfl
  ·rw [if_neg hx,if_neg (by simpa using fun h=>hx h.symm)]
   rcases indexS_find nm (l.map g) 0 with ⟨h1,h2⟩ | ⟨k,h1,h2⟩
   ·rw [if_pos h1,if_neg h2]
   ·rw [if_neg (by omega),if_pos (List.mem_of_getElem? h1)];omega
theorem lookN_append {v1 v2:List Str} {a1 a2:List Ty} (hl:v1.length=a1.length)(n:Str):lookN (v1++v2) (a1++a2) n=if n∈v1 then lookN v1 a1 n else lookN v2 a2 n:=by
 have hidx:∀ (v1:List Str) (i:Nat),indexS n (v1++v2) i=if n∈v1 then indexS n v1 i else indexS n v2 (i+v1.length):=by
  intro v1
  induction v1 with
  | nil=>intro i;simp
  | cons x v1 ih =>
   intro i
   rw [List.cons_append,indexS,indexS,ih]
   by_cases hx:n=x
   ·rw [if_pos hx,if_pos (by simp [hx]),if_pos hx]
   ·simp only [List.mem_cons,hx,false_or,if_false,List.length_cons]
    rw [show i+1+v1.length=i+(v1.length+1) by omega]
 have hsh:=indexS_shift n
 unfold lookN
 rw [hidx v1 0]
 by_cases hn:n∈v1
 ·rw [if_pos hn,if_pos hn]
  obtain⟨k,u,h1,h2,h3,h4⟩:=lookN_in hn (args:=a1) (by omega)
  have hk:=(List.getElem?_eq_some_iff.1 h3).1
  rw [h1,if_pos (by rw [List.length_append];omega),if_pos (by omega)]
  simp only [Int.toNat_natCast]
  rw [List.getElem?_append_left hk]
 ·rw [if_neg hn,if_neg hn,hsh v2 (0+v1.length)]
  by_cases h2:n∈v2
  ·rw [if_pos h2]
   rcases indexS_find n v2 0 with ⟨_,h3⟩ | ⟨k,h3,h4⟩
   ·exact absurd h2 h3
   ·rw [h4]
    by_cases hk:k < a2.length
    ·rw [if_pos (by rw [List.length_append];omega),if_pos (by omega)]
     rw [show (((0+k:Nat):Int)+((0+v1.length:Nat):Int)).toNat=a1.length+k by omega,List.getElem?_append_right (by omega)]
     rw [show a1.length+k - a1.length=k by omega,show (((0+k:Nat):Int)).toNat=k by omega]
    ·rw [if_neg (by rw [List.length_append];omega),if_neg (by omega)]
  ·rw [if_neg h2,if_neg (by omega)]
   rcases indexS_find n v2 0 with ⟨h3,_⟩ | ⟨k,h3,_⟩
   ·rw [if_neg (by omega)]
   ·exact absurd (List.mem_of_getElem? h3) h2
def Sig.Lf (S:Str→Prop)(s:Sig):Prop:=(∀ f,f∈s.formals→f.bound.Lf S)∧(∀ f,f∈s.params→f.type.Lf S)∧s.result.Lf S
variable {s:Sig}
theorem Sig.Lf.mono {S T:Str→Prop} (h:s.Lf S)(hs:∀ n,S n→T n):s.Lf T:=⟨fun f hf=>(h.1 f hf).mono hs,fun f hf=>(h.2.1 f hf).mono hs,h.2.2.mono hs⟩
theorem sig_comp (v1:List Str)(a1:List Ty)(v2:List Str)(a2:List Ty)(hl:v1.length≤a1.length)(s:Sig)(h:s.Lf fun n=>n∈v1∨n ∉ v2):(s.subst v1 a1).subst v2 a2=s.subst v1 (a1.map (Ty.subst v2 a2)):=by
 simp only [Sig.subst,List.map_map,Sig.mk.injEq,true_and,and_true]
 refine⟨List.map_congr_left fun f hf=>?_,List.map_congr_left fun f hf=>?_,subst_comp _ _ _ _ hl _ h.2.2⟩
 ·simp only [Function.comp,Formal.subst,subst_comp _ _ _ _ hl _ (h.1 f hf)]
 ·simp only [Function.comp,Param.subst,subst_comp _ _ _ _ hl _ (h.2.1 f hf)]
def isLoc (n:Str):Prop:=∃ i,n=localS i
theorem localT_Lf (i:Nat) {S:Str→Prop} (h:∀ n,isLoc n→S n):(localT i).Lf S:=.of (fun _=>h _ ⟨i,rfl⟩) (by simp [localT,mkA])
theorem localTs_Lf (n:Nat) {S:Str→Prop} (h:∀ n,isLoc n→S n):∀ u,u∈localTs n→u.Lf S:=fun u hu=>by
 unfold localTs at hu
 obtain⟨i,_,rfl⟩:=List.mem_map.1 hu
 exact localT_Lf i h
theorem canon_Lf {S T:Str→Prop} (h:s.Lf fun n=>n∈fnames s.formals∨S n)(hs:∀ n,S n→T n)(hl:∀ n,isLoc n→T n):s.canon.Lf T:=by
 have key:∀ t:Ty,t.Lf (fun n=>n∈fnames s.formals∨S n)→(t.subst (fnames s.formals) (localTs s.formals.length)).Lf T:=fun t ht =>
  Lf_subst (S:=fun n=>n∈fnames s.formals∨S n) (fun n hn hk=>hn.elim (fun h1=>by
   obtain⟨_,_,_,_,_,h5⟩:=lookN_in h1 (args:=localTs s.formals.length) (by simp [fnames,localTs])
   rw [h5] at hk;cases hk) (hs n)) (localTs_Lf _ hl) ht
 refine⟨fun f hf=>?_,fun f hf=>?_,key _ h.2.2⟩
 ·simp only [Sig.canon,canF,Sig.formals] at hf
  obtain⟨i,hi,rfl⟩:=List.mem_mapIdx.1 hf
  exact key _ (h.1 _ (List.getElem_mem hi))
 ·simp only [Sig.canon,canP,Sig.params] at hf
  obtain⟨i,hi,rfl⟩:=List.mem_mapIdx.1 hf
  exact key _ (h.2.1 _ (List.getElem_mem hi))
structure Sig.Cn (s:Sig):Prop where
 fs:fnames s.formals=(List.range s.formals.length).map localS
 ps:∀ f,f∈s.params→f.name=[]
theorem canon_Cn (s:Sig):s.canon.Cn:=by
 refine⟨?_,fun f hf=>?_⟩
 ·refine List.ext_getElem (by simp [fnames,Sig.canon,canF]) fun i h1 h2=>?_
  simp only [List.getElem_map,List.getElem_range]
  simp only [fnames,List.length_map] at h1
  simp only [fnames,List.getElem_map,Sig.canon,canF,Sig.formals,List.getElem_mapIdx]
  rw [if_pos]
  simpa [Sig.canon,canF] using h1
 ·simp only [Sig.canon,canP,Sig.params] at hf
  obtain⟨i,hi,rfl⟩:=List.mem_mapIdx.1 hf
  simp [hi]
theorem Sig.Cn.subst (h:s.Cn)(v:List Str)(a:List Ty):(s.subst v a).Cn:=by
 refine⟨?_,fun f hf=>?_⟩
 ·simp only [Sig.subst,List.length_map]
  rw [← h.fs]
  simp only [fnames,List.map_map];rfl
 ·simp only [Sig.subst] at hf
  obtain⟨g,hg,rfl⟩:=List.mem_map.1 hf
  exact h.ps g hg
theorem localT_self {n:Nat} (t:Ty):t.subst ((List.range n).map localS) (localTs n)=t:=by
 induction t using Ty.induct with
 | h t ih =>
 rw [subst_look]
 cases hu:(if t.args=[] then lookN ((List.range n).map localS) (localTs n) t.name else none) with
 | none =>
  simp only
  rw [List.map_congr_left (g:=id) fun u hu=>ih u hu]
  cases t;simp [Ty.name,Ty.args,Ty.pos]
 | some u =>
  split at hu
  ·rename_i ha
   obtain⟨k,w,h1,h2,h3,h4⟩:=lookN_in (lookN_mem hu).1 (args:=localTs n) (by simp [localTs])
   rw [h4] at hu
   simp only [Option.some.injEq] at hu
   subst hu
   have hk:k < n:=by have:=(List.getElem?_eq_some_iff.1 h3).1;simpa [localTs] using this
   have e1:t.name=localS k:=by
    rw [List.getElem?_map,List.getElem?_range hk] at h2;simpa using h2.symm
   have e2:w=localT k:=by
    unfold localTs at h3
    rw [List.getElem?_map,List.getElem?_range hk] at h3;simpa using h3.symm
   subst e2
   cases t;simp only [Ty.name,Ty.args,Ty.pos] at *;subst ha;subst e1;rfl
  ·cases hu
theorem Sig.Cn.canon (h:s.Cn):s.canon=s:=by
 cases s with | mk nm fs ps r q =>
 have hf:=h.fs
 have hp:=h.ps
 simp only [Sig.formals,Sig.params] at hf hp
 simp only [Sig.canon,Sig.mk.injEq,true_and,and_true,Sig.formals,Sig.params,canF,canP]
 rw [hf]
 refine⟨?_,?_,localT_self _⟩
 ·refine List.ext_getElem? fun i=>?_
  rw [List.getElem?_mapIdx]
  cases h:fs[i]? with
  | none=>rfl
  | some f =>
   have hi:=(List.getElem?_eq_some_iff.1 h).1
   have hn:(fnames fs)[i]? = some f.name:=by unfold fnames;rw [List.getElem?_map,h];rfl
   rw [hf,List.getElem?_map,List.getElem?_range hi] at hn
   simp only [Option.map_some,Option.some.injEq] at hn
   simp only [Option.map_some,localT_self,if_pos hi,hn]
 ·refine List.ext_getElem? fun i=>?_
  rw [List.getElem?_mapIdx]
  cases h:ps[i]? with
  | none=>rfl
  | some f =>
   have hi:=(List.getElem?_eq_some_iff.1 h).1
   simp only [Option.map_some,localT_self,if_pos hi,← hp f (List.mem_of_getElem? h)]
theorem specsT_Cn {p:Prog} {x:Ty} :∀ s,s∈specsT p x→s.Cn:=by
 intro s hs
 unfold specsT at hs
 by_cases hi:instB p x 2=true
 ·rw [if_pos hi] at hs
  unfold specsD specL at hs
  obtain⟨y,_,rfl⟩:=List.mem_map.1 hs
  exact (canon_Cn _).subst _ _
 ·rw [if_neg hi] at hs;cases hs
theorem setU_Cn {p:Prog} {env:List Formal} {x:Ty} :∀ s,s∈setU p env x→s.Cn:=by
 intro s hs
 unfold setU at hs
 by_cases hi:instB p ((boundV env x).getD x) 2=true
 ·rw [if_pos hi] at hs;exact specsT_Cn s hs
 ·rw [if_neg hi] at hs
  by_cases hb:(boundV env x).isSome=true
  ·rw [if_pos hb] at hs;cases hs
  ·rw [if_neg hb] at hs
   unfold methL at hs
   obtain⟨y,_,rfl⟩:=List.mem_map.1 hs
   exact (canon_Cn _).subst _ _
theorem er_pos {u:Ty} {q:Int} :(Ty.mk u.name u.args q).er=u.er:=by rw [er_eq,er_eq u];rfl
theorem impl_cov {p:Prog} {env:List Formal} {x y:Ty} (h:implB p env x y=true):∀ w,w∈setU p env y→∃ s,s∈setU p env x∧s.er=w.er:=by
 intro w hw
 unfold implB at h
 split at h
 ·rw [decide_eq_true_eq,covT_iff] at h
  obtain⟨s,hs,_,h2⟩:=h w hw
  rw [(setU_Cn s hs).canon,(setU_Cn w hw).canon] at h2
  exact⟨s,hs,h2⟩
 ·rw [sameT_er] at h
  have:w.er∈(setU p env x).map Sig.er:=by rw [setU_er h];exact List.mem_map.2 ⟨w,hw,rfl⟩
  obtain⟨s,hs,he⟩:=List.mem_map.1 this
  exact⟨s,hs,he⟩
theorem impl_of_cov {p:Prog} {env:List Formal} {x y:Ty} (hi:isIface p env y=true)(h:∀ w,w∈setU p env y→∃ s,s∈setU p env x∧s.er=w.er):implB p env x y=true:=by
 unfold implB
 rw [if_pos hi,decide_eq_true_eq,covT_iff]
 intro w hw
 obtain⟨s,hs,he⟩:=h w hw
 exact⟨s,hs,by have:=congrArg Sig.name he;simpa [Sig.er] using this,by rw [canon_er,canon_er,he]⟩
theorem impl_of_er {p:Prog} {env:List Formal} {x y:Ty} (h:x.er=y.er):implB p env x y=true:=by
 by_cases hi:isIface p env y=true
 ·refine impl_of_cov hi fun w hw=>?_
  have:w.er∈(setU p env x).map Sig.er:=by rw [setU_er h];exact List.mem_map.2 ⟨w,hw,rfl⟩
  obtain⟨s,hs,he⟩:=List.mem_map.1 this
  exact⟨s,hs,he⟩
 ·unfold implB
  rw [if_neg hi,sameT_er];exact h
theorem impl_er {p:Prog} {env:List Formal} {x y x' y':Ty} (hx:x.er=x'.er)(hy:y.er=y'.er)(h:implB p env x y=true):implB p env x' y'=true :=
 implB_trans (implB_trans (impl_of_er hx.symm) h) (impl_of_er hy)
end Go.Abs
/- a program whose heads are in order: what substitution of types keeps: fields, method sets, implementing, well-formedness -/
namespace Go.Abs
set_option linter.unusedSimpArgs false
set_option linter.unusedVariables false
open Go Go.Proofs
set_option maxRecDepth 100000
set_option maxHeartbeats 1000000
structure PW (p:Prog):Prop where
 name:∀ n,kindOf p n≠0→¬ isLoc n
 bnd:∀ x d,declT p x=some d→∀ f,f∈d.formals→f.bound.Lf fun n=>n∈fnames d.formals∨kindOf p n≠0
 fld:∀ x d,declT p x=some d→d.kind=1→∀ f,f∈d.fields→f.type.Lf fun n=>n∈fnames d.formals∨kindOf p n≠0
 spc:∀ x d,declT p x=some d→d.kind=2→∀ s,s∈d.sigs→s.Lf fun n=>n∈fnames s.formals∨(n∈fnames d.formals∨kindOf p n≠0)
 mth:∀ d,d∈p.decls→d.kind=3→d.sig.Lf fun n=>n∈fnames d.sig.formals∨(n∈d.vars∨kindOf p n≠0)
structure Sb (p:Prog)(env env':List Formal)(v:List Str)(a:List Ty):Prop where
 names:v=fnames env
 len:a.length=v.length
 fresh:∀ n,n∈v→kindOf p n=0∧¬ isLoc n
 fresh':∀ n,n∈fnames env'→kindOf p n=0
 clean:∀ u,u∈a→u.Lf fun n=>¬ isLoc n
 iface:∀ f,f∈env→isIface p env f.bound=true
 bnd:∀ (i:Nat) (f:Formal) (u:Ty),env[i]? = some f→a[i]? = some u→implB p env' u (f.bound.subst v a)=true
theorem boundV_kind {p:Prog} {env:List Formal} {t:Ty} (h:∀ n,n∈fnames env→kindOf p n=0)(hk:kindOf p t.name≠0):boundV env t=none:=by
 unfold boundV
 rw [if_pos]
 unfold findV
 split
 ·rcases idxF_cases (fun f:Formal=>decide (f.name=t.name)) env with ⟨h1,_⟩ | ⟨j,x,_,h2,h3⟩
  ·omega
  ·have:=h x.name (List.mem_map.2 ⟨x,List.mem_of_getElem? h2,rfl⟩)
   simp only [decide_eq_true_eq] at h3
   rw [h3] at this;exact absurd this hk
 ·omega
theorem boundV_some {env:List Formal} {t b:Ty} (h:boundV env t=some b):∃ (k:Nat)(f:Formal),env[k]? = some f∧b=f.bound∧t.args=[]∧indexS t.name (fnames env) 0=k∧f.name=t.name:=by
 unfold boundV at h
 split at h
 ·cases h
 ·rename_i hn
  unfold findV at h hn
  split at hn
  ·rename_i ha
   rw [if_pos ha] at h
   rw [idx_names] at h hn
   rcases index_names env t.name with h1 | ⟨k,f,hf,he,hk⟩
   ·unfold fnames at h1;rw [h1] at hn;exact absurd (by decide) hn
   ·unfold fnames at hk
    rw [hk,Int.toNat_natCast,hf] at h
    simp only [Option.map_some,Option.some.injEq] at h
    exact⟨k,f,hf,h.symm,List.eq_nil_of_length_eq_zero ha,hk,he⟩
  ·exact absurd (by decide) hn
theorem boundV_none {env:List Formal} {t:Ty} (h:boundV env t=none)(ha:t.args=[]):t.name ∉ fnames env:=by
 intro hm
 unfold boundV findV at h
 have ha0:t.args.length=0:=by rw [ha];rfl
 rw [if_pos ha0,idx_names] at h
 rcases index_names env t.name with h1 | ⟨k,f,hf,he,hk⟩
 ·rcases indexS_find t.name (fnames env) 0 with ⟨_,h2⟩ | ⟨k,h2,h3⟩
  ·exact h2 hm
  ·omega
 ·unfold fnames at hk
  rw [hk,if_neg (by omega),Int.toNat_natCast,hf] at h;cases h
theorem inst_kind {p:Prog} {t:Ty} {k:Int} (h:instB p t k=true):kindOf p t.name=k∧(formalsT p t.name).length=t.args.length:=by
 unfold instB at h;simpa using h
theorem inst_of {p:Prog} {t u:Ty} {k:Int} (h:instB p t k=true)(hn:u.name=t.name)(hl:u.args.length=t.args.length):instB p u k=true:=by
 unfold instB at *;rw [hn,hl];exact h
section
variable {p:Prog} {env env':List Formal} {v:List Str} {a:List Ty}
theorem Sb.node (sb:Sb p env env' v a) {t:Ty} (h:boundV env t=none):t.subst v a=.mk t.name (t.args.map (Ty.subst v a)) t.pos :=
 subst_node fun ha=>lookN_out (by rw [sb.names];exact boundV_none h ha)
theorem Sb.envf (sb:Sb p env env' v a):∀ n,n∈fnames env→kindOf p n=0:=fun n hn=>(sb.fresh n (by rw [sb.names];exact hn)).1
theorem Sb.inst (sb:Sb p env env' v a) {t:Ty} {k:Int} (hk:k≠0)(h:instB p t k=true):t.subst v a=.mk t.name (t.args.map (Ty.subst v a)) t.pos∧instB p (t.subst v a) k=true∧boundV env t=none∧boundV env' (t.subst v a)=none:=by
 have hn:=(inst_kind h).1
 have hb:=boundV_kind (t:=t) sb.envf (by rw [hn];exact hk)
 have he:=sb.node hb
 refine⟨he,?_,hb,?_⟩
 ·rw [he];exact inst_of h rfl (by simp [mkA])
 ·rw [he];exact boundV_kind sb.fresh' (by rw [mkN,hn];exact hk)
theorem Sb.iface' (sb:Sb p env env' v a) {t:Ty} (h:isIface p env t=true):isIface p env' (t.subst v a)=true:=by
 unfold isIface at h ⊢
 rw [Bool.and_eq_true] at h ⊢
 obtain⟨_,h2,_,h4⟩:=sb.inst (by decide) h.1
 exact⟨h2,by rw [h4];rfl⟩
theorem Sb.var (sb:Sb p env env' v a) {t b:Ty} (h:boundV env t=some b):∃ (k:Nat)(f:Formal)(u:Ty),env[k]? = some f∧b=f.bound∧t.args=[]∧a[k]? = some u∧t.subst v a=.mk u.name u.args t.pos:=by
 obtain⟨k,f,h1,h2,h3,h4,h5⟩:=boundV_some h
 have hm:t.name∈v:=by rw [sb.names,← h5];exact List.mem_map.2 ⟨f,List.mem_of_getElem? h1,rfl⟩
 obtain⟨k',u,g1,g2,g3,g4⟩:=lookN_in hm (args:=a) (by rw [sb.len];exact Nat.le_refl _)
 have:k'=k:=by rw [sb.names,h4] at g1;omega
 subst this
 exact⟨k',f,u,h1,h2,h3,g3,subst_leaf h3 g4⟩
theorem Sb.out (sb:Sb p env env' v a) {n:Str} (h:isLoc n∨kindOf p n≠0):n ∉ v:=fun hn=>by
 obtain⟨h1,h2⟩:=sb.fresh n hn
 rcases h with h | h
 ·exact h2 h
 ·exact h h1
theorem specs_sb (hp:PW p)(sb:Sb p env env' v a) {t:Ty} (h:instB p t 2=true):specsT p (t.subst v a)=(specsT p t).map (Sig.subst v a):=by
 obtain⟨he,hi,_,_⟩:=sb.inst (by decide) h
 obtain⟨d,hd,hdk,hdl⟩:=inst_decl (by decide) h
 unfold specsT
 rw [if_pos hi,if_pos h,he,mkN,hd,Option.getD_some]
 unfold specsD specL
 rw [mkA,List.map_map]
 refine List.map_congr_left fun s hs=>?_
 have hsm:s.1∈d.sigs:=List.mem_of_mem_take (List.fst_mem_of_mem_zipIdx (List.mem_filter.1 hs).1)
 simp only [Function.comp]
 refine (sig_comp _ _ _ _ (by rw [← hdl];simp [fnames]) _ ?_).symm
 refine canon_Lf (hp.spc _ d hd hdk s.1 hsm) (fun n hn=>?_) fun n hn=>.inr (sb.out (.inl hn))
 exact hn.imp_right fun h=>sb.out (.inr h)
theorem meths_sb (hp:PW p)(sb:Sb p env env' v a) {t:Ty} (h:instB p t 1=true)(j:Nat):methL p (t.subst v a) j=(methL p t j).map (Sig.subst v a):=by
 obtain⟨he,hi,_,_⟩:=sb.inst (by decide) h
 have hb:methB p (t.subst v a)=methB p t:=by
  funext d i
  unfold methB methP
  rw [hi,h,he,mkN,mkA,List.length_map]
 unfold methL
 rw [hb,List.map_map,he,mkA]
 refine List.map_congr_left fun s hs=>?_
 obtain⟨h1,h2⟩:=List.mem_filter.1 hs
 have hsm:s.1∈p.decls:=List.mem_of_mem_take (List.fst_mem_of_mem_zipIdx h1)
 unfold methB at h2
 simp only [Bool.and_eq_true,decide_eq_true_eq] at h2
 obtain⟨⟨hk,hn⟩,hm⟩:=h2
 have hvl:s.1.vars.length=t.args.length:=by
  unfold methP at hm
  rw [if_pos h] at hm
  split at hm
  ·rename_i d' hd'
   split at hm
   ·rename_i hc
    rw [hm,Int.toNat_natCast] at hd'
    have:p.decls[s.2]? = some s.1:=by
     obtain⟨_,h5,h6⟩:=List.mem_zipIdx h1
     rw [h6]
     simp only [Nat.zero_add,List.length_take] at h5
     simp only [Nat.sub_zero,List.getElem_take]
     exact List.getElem?_eq_getElem _
    rw [this] at hd';cases hd'
    exact hc.2
   ·omega
  ·omega
 simp only [Function.comp]
 refine (sig_comp _ _ _ _ (by omega) _ ?_).symm
 refine canon_Lf (hp.mth s.1 hsm hk) (fun n hn=>?_) fun n hn=>.inr (sb.out (.inl hn))
 exact hn.imp_right fun h=>sb.out (.inr h)
theorem fields_sb (hp:PW p)(sb:Sb p env env' v a) {t:Ty} (h:instB p t 1=true):fieldsT p (t.subst v a)=(fieldsT p t).map (Param.subst v a):=by
 obtain⟨he,hi,_,_⟩:=sb.inst (by decide) h
 obtain⟨d,hd,hdk,hdl⟩:=inst_decl (by decide) h
 unfold fieldsT
 rw [if_pos hi,if_pos h,he,mkN,hd,Option.getD_some]
 unfold fieldsD
 rw [mkA,List.map_map]
 refine List.map_congr_left fun f hf=>?_
 simp only [Function.comp,Param.subst,Param.mk.injEq,true_and,and_true]
 refine (subst_comp _ _ _ _ (by rw [← hdl];simp [fnames]) _ ?_).symm
 exact (hp.fld _ d hd hdk f hf).mono fun n hn=>hn.imp_right fun h=>sb.out (.inr h)
theorem setU_iface {p:Prog} {env:List Formal} {t:Ty} (h:isIface p env t=true):setU p env t=specsT p t:=by
 unfold isIface at h
 rw [Bool.and_eq_true] at h
 unfold setU
 cases hb:boundV env t with
 | some b=>rw [hb] at h;simp at h
 | none=>rw [Option.getD_none,if_pos h.1]
theorem setU_mem_er {p:Prog} {env:List Formal} {x y:Ty} (h:x.er=y.er) {s:Sig} (hs:s∈setU p env x):∃ s',s'∈setU p env y∧s'.er=s.er:=by
 have:s.er∈(setU p env y).map Sig.er:=by rw [← setU_er h];exact List.mem_map.2 ⟨s,hs,rfl⟩
 obtain⟨s',hs',he⟩:=List.mem_map.1 this
 exact⟨s',hs',he⟩
theorem setU_sb (hp:PW p)(sb:Sb p env env' v a) {t:Ty} {s:Sig} (hs:s∈setU p env t):∃ s',s'∈setU p env' (t.subst v a)∧s'.er=(s.subst v a).er:=by
 cases hb:boundV env t with
 | some b =>
  obtain⟨k,f,u,h1,rfl,h3,h4,h5⟩:=sb.var hb
  have hi:=sb.iface f (List.mem_of_getElem? h1)
  have hi':=sb.iface' hi
  have hif:=hi
  unfold isIface at hif
  rw [Bool.and_eq_true] at hif
  have hst:s∈specsT p f.bound:=by
   unfold setU at hs
   rw [hb,Option.getD_some,if_pos hif.1] at hs;exact hs
  have hsp:=specs_sb hp sb hif.1
  obtain⟨w,hw,hwe⟩:=impl_cov (sb.bnd k f u h1 h4) (s.subst v a) (by rw [setU_iface hi',hsp];exact List.mem_map.2 ⟨s,hst,rfl⟩)
  obtain⟨w',hw',he⟩:=setU_mem_er (y:=t.subst v a) (by rw [h5,er_pos]) hw
  exact⟨w',hw',he.trans hwe⟩
 | none =>
  have key:∀ k,k≠0→instB p t k=true→boundV env' (t.subst v a)=none:=fun k hk h=>(sb.inst hk h).2.2.2
  unfold setU at hs
  rw [hb] at hs
  simp only [Option.getD_none,Option.isSome_none,Bool.false_eq_true,if_false] at hs
  split at hs
  ·rename_i h2
   have hn:=key 2 (by decide) h2
   refine⟨s.subst v a,?_,rfl⟩
   unfold setU
   rw [hn,Option.getD_none,if_pos (sb.inst (by decide) h2).2.1,specs_sb hp sb h2]
   exact List.mem_map.2 ⟨s,hs,rfl⟩
  ·rename_i h2
   by_cases h1:instB p t 1=true
   ·have hn:=key 1 (by decide) h1
    refine⟨s.subst v a,?_,rfl⟩
    have hi:=(sb.inst (by decide) h1).2.1
    have h2':¬ instB p (t.subst v a) 2=true:=fun h=>by have:=(inst_kind h).1;have:=(inst_kind hi).1;omega
    unfold setU
    rw [hn,Option.getD_none,if_neg h2']
    simp only [Option.isSome_none,Bool.false_eq_true,if_false]
    rw [meths_sb hp sb h1]
    exact List.mem_map.2 ⟨s,hs,rfl⟩
   ·rw [methL_nil h1] at hs;simp at hs
theorem impl_sb (hp:PW p)(sb:Sb p env env' v a) {t u:Ty} (h:implB p env t u=true):implB p env' (t.subst v a) (u.subst v a)=true:=by
 by_cases hi:isIface p env u=true
 ·have hi':=sb.iface' hi
  refine impl_of_cov hi' fun w hw=>?_
  have hif:=hi
  unfold isIface at hif
  rw [Bool.and_eq_true] at hif
  rw [setU_iface hi',specs_sb hp sb hif.1] at hw
  obtain⟨w0,hw0,rfl⟩:=List.mem_map.1 hw
  obtain⟨s,hs,hse⟩:=impl_cov h w0 (by rw [setU_iface hi];exact hw0)
  obtain⟨s',hs',he⟩:=setU_sb hp sb hs
  exact⟨s',hs',by rw [he,sisubst_er,sisubst_er,hse]⟩
 ·unfold implB at h
  rw [if_neg hi,sameT_er] at h
  exact impl_of_er (by rw [subst_er,subst_er,h])
end
theorem bounds_iff {p:Prog} {env fs:List Formal} {args:List Ty}:boundsI p env fs args < 0↔∀ (i:Nat)(f:Formal)(u:Ty),fs[i]? = some f→args[i]? = some u→implB p env u (f.bound.subst (fnames fs) args)=true:=by
 unfold boundsI
 constructor
 ·intro h i f u hf hu
  rcases idxF_cases (boundQ p env fs args) (fs.zip args) with ⟨_,h2⟩ | ⟨j,z,h1,_⟩
  ·have:=h2 (f,u) (List.mem_of_getElem? (by rw [List.getElem?_zip_eq_some];exact⟨hf,hu⟩:(fs.zip args)[i]? = some (f,u)))
   unfold boundQ at this;simpa using this
  ·omega
 ·intro h
  rw [idxF_none]
  ·decide
  ·intro z hz
   obtain⟨i,hi⟩:=List.getElem?_of_mem hz
   obtain⟨f,u⟩:=z
   rw [List.getElem?_zip_eq_some] at hi
   unfold boundQ
   simp only [h i f u hi.1 hi.2,Bool.not_true]
theorem chkL_iff {p:Prog} {env:List Formal}:∀ {l:List Ty},chkL p env l=none↔∀ t,t∈l→chk p env t=none
 | []=>by simp [chkL]
 | t::l=>by
  rw [chkL]
  cases h:chk p env t with
  | some q=>simp [h]
  | none=>simp only [chkL_iff (l:=l),List.mem_cons,forall_eq_or_imp,h,true_and]
theorem chk_iff {p:Prog} {env:List Formal} {t:Ty}:chk p env t=none↔(boundV env t).isSome=true∨(kindOf p t.name≠0∧(formalsT p t.name).length=t.args.length∧(∀ u,u∈t.args→chk p env u=none)∧boundsI p env (formalsT p t.name) t.args < 0):=by
 rw [chk_eq]
 by_cases hb:(boundV env t).isSome=true
 ·rw [if_pos hb];simp [hb]
 rw [if_neg hb]
 by_cases hk:kindOf p t.name=0∨(formalsT p t.name).length≠t.args.length
 ·rw [if_pos hk]
  simp only [reduceCtorEq,false_iff,not_or]
  exact⟨hb,fun h=>hk.elim h.1 fun g=>g h.2.1⟩
 rw [if_neg hk]
 obtain⟨h1,h2⟩:=not_or.1 hk
 rw [← chkL_iff]
 cases hL:chkL p env t.args with
 | some q=>simp [hb]
 | none =>
  simp only
  split
  ·rename_i h0;simp only [reduceCtorEq,false_iff,not_or];exact⟨hb,fun h=>by omega⟩
  ·rename_i h0;simp only [true_iff];exact .inr ⟨h1,Decidable.byContradiction h2,trivial,by omega⟩
theorem chk_Lf {p:Prog} {env:List Formal} {t:Ty} (h:chk p env t=none):t.Lf fun n=>n∈fnames env∨kindOf p n≠0:=by
 induction t using Ty.induct with | _ t ih=>?_
 rcases chk_iff.1 h with hb | ⟨h1,_,h3,_⟩
 ·obtain⟨b,hb⟩:=Option.isSome_iff_exists.1 hb
  obtain⟨k,f,g1,_,g3,_,g5⟩:=boundV_some hb
  exact .of (fun _=>.inl (by rw [← g5];exact List.mem_map.2 ⟨f,List.mem_of_getElem? g1,rfl⟩)) (by simp [g3])
 ·exact .of (fun _=>.inr h1) fun u hu=>ih u hu (h3 u hu)
theorem chk_er {p:Prog} {env:List Formal} {t:Ty}:∀ {u:Ty},t.er=u.er→chk p env t=none→chk p env u=none:=by
 induction t using Ty.induct with | _ t ih=>?_
 intro u he h
 obtain⟨e1,e2,e3⟩:=er_inj he
 rw [chk_iff] at h ⊢
 rw [← boundV_er he]
 refine h.imp_right fun⟨h1,h2,h3,h4⟩=>⟨by rw [← e1];exact h1,by rw [← e1,← e3];exact h2,fun w hw=>?_,?_⟩
 ·obtain⟨i,hi⟩:=List.getElem?_of_mem hw
  have hlt:i < t.args.length:=by rw [e3];exact (List.getElem?_eq_some_iff.1 hi).1
  have hx:t.args[i]? = some t.args[i]:=List.getElem?_eq_getElem hlt
  have:(t.args.map Ty.er)[i]? = (u.args.map Ty.er)[i]?:=by rw [e2]
  rw [List.getElem?_map,List.getElem?_map,hx,hi] at this
  exact ih _ (List.getElem_mem hlt) (by simpa using this) (h3 _ (List.getElem_mem hlt))
 ·rw [bounds_iff] at h4 ⊢
  intro i f w hf hw
  rw [← e1] at hf
  have hlt:i < t.args.length:=by rw [e3];exact (List.getElem?_eq_some_iff.1 hw).1
  have hx:t.args[i]? = some t.args[i]:=List.getElem?_eq_getElem hlt
  have:(t.args.map Ty.er)[i]? = (u.args.map Ty.er)[i]?:=by rw [e2]
  rw [List.getElem?_map,List.getElem?_map,hx,hw] at this
  have h5:=h4 i f _ hf hx
  refine impl_er (by simpa using this) ?_ h5
  rw [← e1,subst_er,subst_er,e2]
section
variable {p:Prog} {env env':List Formal} {v:List Str} {a:List Ty}
theorem decl_of_kind {p:Prog} {n:Str} (h:kindOf p n≠0):∃ d,declT p n=some d∧d.kind=kindOf p n∧formalsT p n=d.formals:=by
 unfold kindOf at h ⊢
 unfold formalsT declT
 cases hf:p.decls.find? (fun d=>d.isT n) with
 | none=>rw [hf] at h;simp at h
 | some d=>exact⟨d,rfl,rfl,rfl⟩
theorem chk_sb (hp:PW p)(sb:Sb p env env' v a)(ha:∀ u,u∈a→chk p env' u=none) {t:Ty} (h:chk p env t=none):chk p env' (t.subst v a)=none:=by
 induction t using Ty.induct with | _ t ih=>?_
 rcases chk_iff.1 h with hb | ⟨h1,h2,h3,h4⟩
 ·obtain⟨b,hb⟩:=Option.isSome_iff_exists.1 hb
  obtain⟨k,f,u,g1,_,g3,g4,g5⟩:=sb.var hb
  exact chk_er (by rw [g5,er_pos]) (ha u (List.mem_of_getElem? g4))
 ·have hb:=boundV_kind (t:=t) sb.envf h1
  have he:=sb.node hb
  rw [he,chk_iff]
  refine .inr ⟨h1,by rw [mkA,mkN,List.length_map];exact h2,fun w hw=>?_,?_⟩
  ·rw [mkA] at hw
   obtain⟨u,hu,rfl⟩:=List.mem_map.1 hw
   exact ih u hu (h3 u hu)
  ·rw [bounds_iff] at h4 ⊢
   rw [mkA,mkN]
   intro i f w hf hw
   rw [List.getElem?_map,Option.map_eq_some_iff] at hw
   obtain⟨u,hu,rfl⟩:=hw
   have:=impl_sb hp sb (h4 i f u hf hu)
   obtain⟨d,hd,_,hdf⟩:=decl_of_kind h1
   rw [subst_comp] at this
   ·exact this
   ·rw [← h2];simp [fnames]
   ·rw [hdf] at hf ⊢
    exact (hp.bnd _ d hd f (List.mem_of_getElem? hf)).mono fun n hn=>hn.imp_right fun h=>sb.out (.inr h)
end
end Go.Abs
