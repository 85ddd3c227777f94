/- the signatures that right programs of few parts have: names that mangle takes, and how long they get; the signature for a call as a plain function -/
import Derived.Test.YtaneedhchnaniaaGreatDoorQW08
import Derived.Test.YtaneedhchnaniaaGreatDoorQS95
import Derived.Test.YtaneedhchnaniaaGreatDoorQV05
import Derived.Test.YtaneedhchnaniaaGreatDoorQS25
import Derived.Test.YtaneedhchnaniaaGreatDoorQU01
import Derived.Test.YtaneedhchnaniaaGreatDoorQAb7
import Derived.Test.YtaneedhchnaniaaGreatDoorQS36
import Derived.Test.YtaneedhchnaniaaGreatDoorQAb21
import Derived.Test.YtaneedhchnaniaaGreatDoorQShelfS
namespace Go.Abs
set_option linter.unusedSimpArgs false
set_option linter.unusedVariables false
open Go Go.Proofs
set_option maxRecDepth 100000
set_option maxHeartbeats 2000000
theorem tlen_subst4 {v:List Str} {ar:List Ty} {M:Nat} (h4:4≤M)(ha:∀ u,u∈ar→u.tlen≤M):∀ t:Ty,4*(t.subst v ar).tlen≤t.tlen*M:=by
 intro t
 induction t using Ty.induct with
 | h t ih =>
 have hge:4≤t.tlen:=by rw [Ty.tlen_eq];omega
 rw [subst_eq]
 split
 ·rename_i hc
  have hm:=ha _ (getD_mem hc.2.1 hc.2.2)
  generalize (ar[(indexS t.name v 0).toNat]?).getD default=u at hm
  obtain⟨n,a,q⟩:=u
  have e:(Ty.mk (Ty.mk n a q).name (Ty.mk n a q).args t.pos).tlen=(Ty.mk n a q).tlen:=by rw [Ty.tlen_eq,Ty.tlen_eq];rfl
  rw [e]
  exact Nat.mul_le_mul hge hm
 ·have hl:∀ l:List Ty,(∀ t,t∈l→4*(t.subst v ar).tlen≤t.tlen*M)→4*Ty.tlenL (l.map (Ty.subst v ar))≤Ty.tlenL l*M:=by
   intro l
   induction l with
   | nil=>intro _;simp [Ty.tlenL]
   | cons x l ihl =>
    intro h
    have h1:=h x (by simp)
    have h2:=ihl fun t ht=>h t (by simp [ht])
    rw [List.map_cons,Ty.tlenL,Ty.tlenL,Nat.add_mul]
    omega
  have h3:=hl t.args ih
  rw [Ty.tlen_eq,Ty.tlen_eq t]
  show 4*(t.name.length+4+Ty.tlenL (t.args.map (Ty.subst v ar)))≤_
  rw [Nat.add_mul]
  have:4*(t.name.length+4)≤(t.name.length+4)*M:=by rw [Nat.mul_comm 4];exact Nat.mul_le_mul_left _ h4
  omega
structure Sig.Tl (s:Sig):Prop where
 formals:s.formals.length≤2000∧∀ f,f∈s.formals→f.bound.tlen≤120000
 params:s.params.length≤2000∧∀ f,f∈s.params→f.type.tlen≤120000
 result:s.result.tlen≤120000
structure Decl.Tl (d:Decl):Prop where
 fields:∀ f,f∈d.fields→f.type.tlen≤120000
 sigs:∀ s,s∈d.sigs→s.Tl
 sig:d.sig.Tl
structure Ty.Ni (B:Nat)(t:Ty):Prop where
 mg:t.Mg
 len:t.tlen≤B
structure Sig.Ni (B:Nat)(s:Sig):Prop where
 sm:s.Sm
 formals:s.formals.length≤2000∧∀ f,f∈s.formals→f.bound.Ni B
 params:s.params.length≤2000∧∀ f,f∈s.params→f.type.Ni B
 result:s.result.Ni B
theorem Ty.Ni.subst {B M:Nat} (h4:4≤M) {v:List Str} {ar:List Ty} (ha:∀ u,u∈ar→u.Ni M) {t:Ty} (h:t.Ni B):(t.subst v ar).Ni (B*M / 4):=by
 refine⟨Ty.Mg.subst (fun u hu=>(ha u hu).mg) h.mg,?_⟩
 rw [Nat.le_div_iff_mul_le (by decide),Nat.mul_comm]
 exact Nat.le_trans (tlen_subst4 h4 (fun u hu=>(ha u hu).len) t) (Nat.mul_le_mul_right _ h.len)
theorem Sig.Ni.subst {B M:Nat} (h4:4≤M) {v:List Str} {ar:List Ty} (ha:∀ u,u∈ar→u.Ni M)(has:∀ u,u∈ar→u.Sm) {s:Sig} (h:s.Ni B):(s.subst v ar).Ni (B*M / 4):=by
 refine⟨h.sm.subst has,⟨by simp only [Sig.subst,List.length_map];exact h.formals.1,fun f hf=>?_⟩,⟨by simp only [Sig.subst,List.length_map];exact h.params.1,fun f hf=>?_⟩,h.result.subst h4 ha⟩
 ·obtain⟨x,hx,rfl⟩:=List.mem_map.1 hf
  exact (h.formals.2 x hx).subst h4 ha
 ·obtain⟨x,hx,rfl⟩:=List.mem_map.1 hf
  exact (h.params.2 x hx).subst h4 ha
theorem localT_Ni (i:Nat)(h:i≤100000):(localT i).Ni 12:=by
 refine⟨localT_Mg i h,?_⟩
 have:=dec_len i h
 rw [Ty.tlen_eq]
 simp only [localT,Ty.name,Ty.args,Ty.tlenL,localS,itoa_nat,List.length_cons]
 omega
theorem Sig.Ni.canon {B:Nat} {s:Sig} (h:s.Ni B):s.canon.Ni (B*12 / 4):=by
 have hl:=h.formals.1
 have hs:∀ u,u∈localTs s.formals.length→u.Ni 12:=fun u hu=>by
  obtain⟨i,hi,rfl⟩:=List.mem_map.1 hu
  exact localT_Ni i (by have:=List.mem_range.1 hi;omega)
 refine⟨h.sm.canon,⟨by simp only [Sig.canon,canF_len];exact h.formals.1,fun f hf=>?_⟩,⟨by simp only [Sig.canon,canP_len];exact h.params.1,fun f hf=>?_⟩,h.result.subst (by decide) hs⟩
 ·obtain⟨i,x,hx,hi,rfl⟩:=mem_mapIdx hf
  exact (h.formals.2 x (List.mem_of_getElem? hx)).subst (by decide) hs
 ·obtain⟨i,x,hx,hi,rfl⟩:=mem_mapIdx hf
  exact (h.params.2 x (List.mem_of_getElem? hx)).subst (by decide) hs
set_option maxHeartbeats 4000000
structure CallT.Ni (c:CallT):Prop where
 sm:c.Sm
 on:c.on.Ni 12000
 targs:∀ t,t∈c.targs→t.Ni 12000
 tl:Ty.tlenL c.targs≤12000000
theorem Ty.Ni.args {t:Ty} (h:t.Ni 12000):∀ u,u∈t.args→u.Ni 12000:=fun u hu=>by
 have h1:=h.len
 have h2:=tlenL_mem hu
 rw [Ty.tlen_eq] at h1
 obtain⟨hm,_⟩:=h
 refine⟨?_,by omega⟩
 cases hm with
 | loc i p hi=>simp [Ty.args] at hu
 | nam n a p _ _ _ h4=>exact h4 u hu
open Go Go.Proofs Go.Sort
abbrev insV (ts:List Ty)(cs:List CallT):SV:=.agg [.d (.slice (tyR ts)),.d (.slice (caR cs))]
def headD (k:Int)(nm:Str)(fs:List Param)(ss:List Sig):Decl:=⟨k,nm,[],fs,ss,[],[],sig0,ex0,0⟩
end Go.Abs
