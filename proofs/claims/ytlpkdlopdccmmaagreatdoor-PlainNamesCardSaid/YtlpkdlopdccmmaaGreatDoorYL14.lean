/- The plain law of layer 14: the program's sets and the reference's lists are the same -/
import Derived.Test.YtlpkdlopdccmmaaGreatDoorYF20
import Derived.Test.YtlpkdlopdccmmaaGreatDoorYFB
namespace Go.Abs
set_option linter.unusedSimpArgs false
set_option linter.unusedVariables false
open Go Go.Proofs
mutual
def Ty.strs (p:Prog):Ty→List Str
 | .mk n a _=>if kindOf p n=1 then n::Ty.strsL p a else []
def Ty.strsL (p:Prog):List Ty→List Str
 | []=>[]
 | t::ts=>t.strs p++Ty.strsL p ts
end
mutual
theorem mem_structs {p:Prog} {x:Str}:∀ (t:Ty) {l:List Str},x∈t.structs p l↔x∈l∨x∈t.strs p
 | .mk n a q,l=>by
  simp only [Ty.structs,Ty.strs]
  split
  ·rw [mem_structsL a,mem_putS,List.mem_cons,or_comm (a:=x=n),or_assoc]
  ·simp
theorem mem_structsL {p:Prog} {x:Str}:∀ (ts:List Ty) {l:List Str},x∈Ty.structsL p ts l↔x∈l∨x∈Ty.strsL p ts
 | [],l=>by simp [Ty.structsL,Ty.strsL]
 | t::ts,l=>by simp only [Ty.structsL,Ty.strsL];rw [mem_structsL ts,mem_structs t,List.mem_append,or_assoc]
end
mutual
theorem mem_gatherN {p:Prog} {x:Str}:∀ (t:Ty) {l:List Str},x∈t.gatherN p l↔x∈l∨x∈t.strs p
 | .mk n a q,l=>by
  simp only [Ty.gatherN,Ty.strs]
  split
  ·rw [mem_gatherNL a,mem_addS,List.mem_cons,or_comm (a:=x=n),or_assoc]
  ·simp
theorem mem_gatherNL {p:Prog} {x:Str}:∀ (ts:List Ty) {l:List Str},x∈Ty.gatherNL p ts l↔x∈l∨x∈Ty.strsL p ts
 | [],l=>by simp [Ty.gatherNL,Ty.strsL]
 | t::ts,l=>by simp only [Ty.gatherNL,Ty.strsL];rw [mem_gatherNL ts,mem_gatherN t,List.mem_append,or_assoc]
end
def strsF (p:Prog)(fs:List Param):List Str:=fs.flatMap fun f=>f.type.strs p
theorem mem_gatherFN {p:Prog} {x:Str} :∀ (fs:List Param) {l:List Str},x∈gatherFN p fs l↔x∈l∨x∈strsF p fs
 | [],l=>by simp [gatherFN,strsF]
 | f::fs,l=>by
  simp only [gatherFN];rw [mem_gatherFN fs,mem_gatherN f.type]
  unfold strsF;rw [List.flatMap_cons,List.mem_append,or_assoc]
theorem mem_fieldsS {p:Prog} {x:Str} :∀ (fs:List Param) {l:List Str},x∈fieldsS p fs l↔x∈l∨x∈strsF p fs
 | [],l=>by simp [fieldsS,strsF]
 | f::fs,l=>by
  simp only [fieldsS];rw [mem_fieldsS fs,mem_structs f.type]
  unfold strsF;rw [List.flatMap_cons,List.mem_append,or_assoc]
def fieldsOf (p:Prog)(nm:Str):List Param:=match p.decls.find? (fun d=>d.isT nm) with
 | some d=>if d.kind=1 then d.fields else []
 | none=>[]
variable {nm:Str}
theorem isT_iff {d:Decl} :d.isT nm=true↔(d.kind=1∨d.kind=2)∧d.name=nm:=by simp [Decl.isT]
theorem fieldsF_none {p:Prog} (h:¬ kindOf p nm=1):∀ ds,fieldsF p nm ds=[]
 | []=>rfl
 | d::ds=>by simp only [fieldsF];rw [if_neg (by simp [h]),fieldsF_none h ds]
theorem fieldsF_some {p:Prog} (h:kindOf p nm=1):∀ (ds:List Decl)(d:Decl),ds.find? (fun d=>d.isT nm)=some d→d.kind=1→fieldsF p nm ds=d.fields
 | [],d,hd,_=>by simp at hd
 | e::ds,d,hd,hk=>by
  simp only [List.find?_cons] at hd
  simp only [fieldsF]
  split at hd
  ·rename_i he
   simp only [Option.some.injEq] at hd;subst hd
   rw [if_pos ⟨hk,(isT_iff.1 he).2,h⟩]
  ·rename_i he
   rw [if_neg (by rintro⟨h1,h2,_⟩;exact absurd (isT_iff.2 ⟨.inl h1,h2⟩) (by simp [he])),fieldsF_some h ds d hd hk]
theorem fieldsF_eq (p:Prog)(nm:Str):fieldsF p nm p.decls=fieldsOf p nm:=by
 unfold fieldsOf
 cases hf:p.decls.find? (fun d=>d.isT nm) with
 | none=>exact fieldsF_none (by simp [kindOf,hf]) _
 | some d =>
  simp only
  split
  ·rename_i hk;exact fieldsF_some (by simp [kindOf,hf,hk]) _ d hf hk
  ·rename_i hk;exact fieldsF_none (by simp [kindOf,hf,hk]) _
theorem mem_contN {p:Prog} {nm x:Str} :x∈contN p nm↔x∈strsF p (fieldsOf p nm):=by
 unfold contN;rw [mem_gatherFN,fieldsF_eq];simp
theorem mem_contS {p:Prog} {nm x:Str} {acc:List Str} :x∈contS p nm acc↔x∈acc∨x∈contN p nm:=by
 rw [mem_contN]
 unfold contS fieldsOf
 cases p.decls.find? (fun d=>d.isT nm) with
 | none=>simp [strsF]
 | some d =>
  simp only
  split
  ·exact mem_fieldsS _
  ·simp [strsF]
theorem asc_ins {s:Str} :∀ {l:List Str},Asc l→s ∉ l→Asc (ins s l)
 | [],_,_=>by simp [ins,Asc]
 | x::l,h,hs=>by
  obtain⟨h1,h2⟩:=List.pairwise_cons.1 h
  simp only [ins]
  split
  ·rename_i hlt
   refine List.pairwise_cons.2 ⟨?_,h⟩
   intro y hy
   rcases List.mem_cons.1 hy with rfl | hy
   ·exact cmpS_lt.1 hlt
   ·exact lt_tr (cmpS_lt.1 hlt) (h1 y hy)
  ·rename_i hlt
   rw [cmpS_lt] at hlt
   refine List.pairwise_cons.2 ⟨?_,asc_ins h2 fun h'=>hs (by simp [h'])⟩
   intro y hy
   rcases mem_ins.1 hy with rfl | hy
   ·exact Classical.byContradiction fun hc=>hs (by rw [lt_tot hlt hc];simp)
   ·exact h1 y hy
theorem asc_put {s:Str} {l:List Str} (h:Asc l):Asc (putS l s):=by
 unfold putS
 split
 ·exact h
 ·exact asc_ins h (by assumption)
mutual
theorem asc_structs {p:Prog}:∀ (t:Ty) {l:List Str},Asc l→Asc (t.structs p l)
 | .mk n a q,l,h=>by
  simp only [Ty.structs]
  split
  ·exact asc_structsL a (asc_put h)
  ·exact h
theorem asc_structsL {p:Prog}:∀ (ts:List Ty) {l:List Str},Asc l→Asc (Ty.structsL p ts l)
 | [],_,h=>h
 | t::ts,_,h=>asc_structsL ts (asc_structs t h)
end
theorem asc_fields {p:Prog} :∀ (fs:List Param) {l:List Str},Asc l→Asc (fieldsS p fs l)
 | [],_,h=>h
 | t::ts,_,h=>asc_fields ts (asc_structs t.type h)
theorem asc_cont {p:Prog} {l:List Str} (h:Asc l):Asc (contS p nm l):=by
 unfold contS
 split
 ·split
  ·exact asc_fields _ h
  ·exact h
 ·exact h
theorem asc_nil:Asc []:=List.Pairwise.nil
theorem asc_ext {l m:List Str} (hl:Asc l)(hm:Asc m)(h:∀ x,x∈l↔x∈m):l=m:=by
 have nd:∀ {l:List Str},Asc l→l.Nodup:=fun {l} h=>List.Pairwise.imp (R:=fun a b=>a < b) (S:=fun a b=>a≠b) (fun {a b} hab he=>lt_irr a (by rw [← he] at hab;exact hab)) h
 refine List.Perm.eq_of_pairwise (le:=fun a b=>a < b) (fun a b _ _ h1 h2=>absurd (lt_tr h1 h2) (lt_irr a)) hl hm ?_
 exact (List.perm_ext_iff_of_nodup (nd hl) (nd hm)).2 h
inductive Way (p:Prog) (nm:Str):Str→Prop where
 | one {x:Str}:x∈contN p nm→Way p nm x
 | more {y x:Str}:Way p nm y→x∈contN p y→Way p nm x
theorem Way.trans {p:Prog} {a b c:Str} (h:Way p a b)(k:Way p b c):Way p a c:=by
 induction k with
 | one h1=>exact .more h h1
 | more _ h1 ih=>exact .more ih h1
theorem Way.isS {p:Prog} {a b:Str} (h:Way p a b):kindOf p b=1:=by
 cases h with
 | one h=>exact (Win.contN p a).isS b h
 | more _ h=>exact (Win.contN p _).isS b h
def Closed (p:Prog)(l:List Str):Prop:=∀ y,y∈l→∀ x,x∈contN p y→x∈l
theorem Way.mem {p:Prog} {nm x:Str} {l:List Str} (h:Way p nm x)(hb:∀ x,x∈contN p nm→x∈l)(hc:Closed p l):x∈l:=by
 induction h with
 | one h=>exact hb _ h
 | more _ h1 ih=>exact hc _ ih _ h1
theorem nodup_back {l m:List Str} (hl:l.Nodup)(hs:∀ x,x∈l→x∈m)(hlen:m.length≤l.length):∀ x,x∈m→x∈l:=by
 intro x hx
 refine Classical.byContradiction fun hc=>?_
 have:=nodup_len (l:=x::l) (m:=m) (List.nodup_cons.2 ⟨hc,hl⟩) fun y hy=>by
  rcases List.mem_cons.1 hy with rfl | hy
  ·exact hx
  ·exact hs y hy
 simp only [List.length_cons] at this
 omega
theorem asc_round {p:Prog} :∀ (is:List Nat) {l:List Str},Asc l→Asc (roundS p is l)
 | [],_,h=>h
 | _::is,_,h=>asc_round is (asc_cont h)
theorem round_way {p:Prog} :∀ (is:List Nat) {l:List Str},(∀ i,i∈is→i < l.length)→(∀ x,x∈l→Way p nm x)→Win p l→∀ x,x∈roundS p is l→Way p nm x
 | [],_,_,h,_=>h
 | i::is,l,hi,h,hw=>by
  have hlt:=hi i (by simp)
  refine round_way is (fun k hk=>Nat.lt_of_lt_of_le (hi k (by simp [hk])) (cont_len _ hw)) ?_ (hw.cont _)
  intro x hx
  rcases mem_contS.1 hx with hx | hx
  ·exact h x hx
  ·rw [List.getElem?_eq_getElem hlt,Option.getD_some] at hx
   exact .more (h _ (List.getElem_mem hlt)) hx
theorem round_closed {p:Prog} :∀ (is:List Nat) {l:List Str},Asc l→Win p l→(roundS p is l).length=l.length→roundS p is l=l∧∀ i,i∈is→∀ y,l[i]? = some y→∀ x,x∈contN p y→x∈l
 | [],l,_,_,_=>⟨rfl,by simp⟩
 | i::is,l,ha,hw,hlen=>by
  simp only [roundS] at hlen ⊢
  have h1:=cont_len (l[i]?.getD []) hw
  have h2:=round_len is (hw.cont (l[i]?.getD []))
  have hsame:contS p (l[i]?.getD []) l=l:=asc_ext (asc_cont ha) ha fun x=>⟨nodup_back hw.nodup (fun _=>sub_cont) (by omega) x,fun h=>sub_cont h⟩
  rw [hsame] at hlen ⊢
  obtain⟨g1,g2⟩:=round_closed is ha hw hlen
  refine⟨g1,?_⟩
  intro k hk y hy x hx
  rcases List.mem_cons.1 hk with rfl | hk
  ·rw [hy,Option.getD_some] at hsame
   rw [← hsame];exact mem_contS.2 (.inr hx)
  ·exact g2 k hk y hy x hx
theorem loop_spec {p:Prog} :∀ (k:Nat)(n:Int)(l:List Str),Asc l→Win p l→(∀ x,x∈l→Way p nm x)→(n=l.length→Closed p l)→p.decls.length+2≤k+l.length→(p.decls.length+1≤k+l.length∨n=l.length) →
  Asc (loopS p k n l)∧Closed p (loopS p k n l)∧(∀ x,x∈l→x∈loopS p k n l)∧∀ x,x∈loopS p k n l→Way p nm x
 | 0,n,l,ha,hw,hx,hc,hk,_=>by have:=hw.len;omega
 | k+1,n,l,ha,hw,hx,hc,hk,hk2=>by
  simp only [loopS]
  split
  ·exact⟨ha,hc (by assumption),fun _ h=>h,hx⟩
  ·rename_i hne
   have hw2:Win p (roundS p (List.range' 0 l.length) l):=Win.round _ hw
   have hlen:=round_len (List.range' 0 l.length) hw
   by_cases hsame:(roundS p (List.range' 0 l.length) l).length=l.length
   ·obtain⟨g1,g2⟩:=round_closed _ ha hw hsame
    have hcl:Closed p l:=by
     intro y hy x hx
     obtain⟨i,hi⟩:=List.mem_iff_getElem?.1 hy
     exact g2 i (by simp only [List.mem_range'_1];have:=(List.getElem?_eq_some_iff.1 hi).1;omega) y hi x hx
    rw [g1]
    have hw3:=hw.len
    cases k with
    | zero=>omega
    | succ k=>simp only [loopS,if_true];exact⟨ha,hcl,fun _ h=>h,hx⟩
   ·have hw3:=hw2.len
    obtain⟨q1,q2,q3,q4⟩:=loop_spec k l.length (roundS p (List.range' 0 l.length) l) (asc_round _ ha) hw2 (round_way _ (fun i hi=>by simp only [List.mem_range'_1] at hi;omega) hx hw) (fun h=>by omega) (by omega) (by omega)
    exact⟨q1,q2,fun x hx=>q3 x (sub_round _ hx),q4⟩
theorem reachS_spec (p:Prog)(hp:p.decls.length≤100000)(nm:Str):Asc (reachS p nm)∧∀ x,x∈reachS p nm↔Way p nm x:=by
 obtain⟨h1,h2,h3,h4⟩:=loop_spec (p:=p) (nm:=nm) 100003 (-1) (contS p nm []) (asc_cont asc_nil) ((Win.nil p).cont nm) (fun x hx=>.one (by simpa using mem_contS.1 hx)) (fun h=>by omega) (by omega) (by omega)
 exact⟨h1,fun x=>⟨h4 x,fun h=>h.mem (fun y hy=>h3 y (mem_contS.2 (.inr hy))) h2⟩⟩
theorem reachL_spec {p:Prog} :∀ (n:Nat)(op out:List Str),Win p out→(∀ s,s∈op→kindOf p s=1)→muR p.decls.length op out≤n→(∀ x,x∈op→Way p nm x)→(∀ x,x∈out→Way p nm x) →
  (∀ y,y∈out→∀ x,x∈contN p y→x∈out∨x∈op)→(∀ x,x∈contN p nm→x∈out∨x∈op)→∀ x,x∈reachL p n op out↔Way p nm x
 | 0,[],out,hw,hk,hmu,h1,h2,h3,h4=>fun x=>⟨h2 x,fun h=>h.mem (l:=out) (fun y hy=>by simpa using h4 y hy) (fun y hy x hx=>by simpa using h3 y hy x hx)⟩
 | 0,s::op,out,hw,hk,hmu,h1,h2,h3,h4=>by simp [muR] at hmu
 | n+1,[],out,hw,hk,hmu,h1,h2,h3,h4=>fun x=>⟨h2 x,fun h=>h.mem (l:=out) (fun y hy=>by simpa using h4 y hy) (fun y hy x hx=>by simpa using h3 y hy x hx)⟩
 | n+1,s::op,out,hw,hk,hmu,h1,h2,h3,h4=>by
  simp only [reachL]
  split
  ·rename_i hin
   refine reachL_spec n op out hw (fun x hx=>hk x (by simp [hx])) (by simp only [muR,List.length_cons] at *;omega) (fun x hx=>h1 x (by simp [hx])) h2 ?_ ?_
   ·intro y hy x hx
    rcases h3 y hy x hx with h | h
    ·exact .inl h
    ·rcases List.mem_cons.1 h with rfl | h
     ·exact .inl hin
     ·exact .inr h
   ·intro x hx
    rcases h4 x hx with h | h
    ·exact .inl h
    ·rcases List.mem_cons.1 h with rfl | h
     ·exact .inl hin
     ·exact .inr h
  ·rename_i hin
   have hks:=hk s (by simp)
   have hlt:=muR_add (hw.add hks) hin (op:=op)
   have hs:=h1 s (by simp)
   refine reachL_spec n _ _ (hw.add hks) ?_ (by omega) ?_ ?_ ?_ ?_
   ·intro x hx
    rcases List.mem_append.1 hx with hx | hx
    ·exact hk x (by simp [hx])
    ·exact (Win.contN p s).isS x (mem_sortS.1 hx)
   ·intro x hx
    rcases List.mem_append.1 hx with hx | hx
    ·exact h1 x (by simp [hx])
    ·exact .more hs (mem_sortS.1 hx)
   ·intro x hx
    rcases mem_addS.1 hx with rfl | hx
    ·exact hs
    ·exact h2 x hx
   ·intro y hy x hx
    rcases mem_addS.1 hy with rfl | hy
    ·exact .inr (List.mem_append.2 (.inr (mem_sortS.2 hx)))
    ·rcases h3 y hy x hx with h | h
     ·exact .inl (mem_addS.2 (.inr h))
     ·rcases List.mem_cons.1 h with rfl | h
      ·exact .inl (mem_addS.2 (.inl rfl))
      ·exact .inr (List.mem_append.2 (.inl h))
   ·intro x hx
    rcases h4 x hx with h | h
    ·exact .inl (mem_addS.2 (.inr h))
    ·rcases List.mem_cons.1 h with rfl | h
     ·exact .inl (mem_addS.2 (.inl rfl))
     ·exact .inr (List.mem_append.2 (.inl h))
theorem mem_reachN (p:Prog)(nm:Str):∀ x,x∈reachN p nm↔Way p nm x :=
 reachL_spec _ _ _ (Win.nil p) (fun s hs=>(Win.contN p nm).isS s (mem_sortS.1 hs)) (Nat.le_refl _) (fun x hx=>.one (mem_sortS.1 hx)) (by simp) (by simp) (fun x hx=>.inr (mem_sortS.2 hx))
end Go.Abs
