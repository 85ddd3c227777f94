/- layer 13's plain laws: implementing is reflexive and transitive; a declaration's own type is well formed -/
import Derived.Test.YtfjaahliphbklaaGreatDoorJS37
import Derived.Test.YtfjaahliphbklaaGreatDoorJAb21
namespace Go.Abs
set_option linter.unusedSimpArgs false
set_option linter.unusedVariables false
open Go Go.Proofs
set_option maxRecDepth 100000
set_option maxHeartbeats 1000000
mutual
def Ty.er:Ty→Ty
 | .mk n a _=>.mk n (Ty.erL a) 0
def Ty.erL:List Ty→List Ty
 | []=>[]
 | t::ts=>t.er::Ty.erL ts
end
theorem E7j:∀ l:List Ty,Ty.erL l=l.map Ty.er
 | []=>by rw [Ty.erL];rfl
 | t::l=>by rw [Ty.erL,E7j l];rfl
theorem C2q (t:Ty):t.er=.mk t.name (t.args.map Ty.er) 0:=by cases t with | mk n a p=>rw [Ty.er,E7j];rfl
theorem mkN (n:Str)(a:List Ty)(p:Int):(Ty.mk n a p).name=n:=rfl
theorem mkA (n:Str)(a:List Ty)(p:Int):(Ty.mk n a p).args=a:=rfl
theorem mkQ (n:Str)(a:List Ty)(p:Int):(Ty.mk n a p).pos=p:=rfl
theorem F0a (t:Ty):t.er.name=t.name:=by rw [C2q];rfl
theorem F0y (t:Ty):t.er.args=t.args.map Ty.er:=by rw [C2q];rfl
theorem D9o:∀ l m:List Ty,(∀ t,t∈l→∀ u,A7c t u=0↔t.er=u.er)→(A2c l m=0↔l.map Ty.er=m.map Ty.er)
 | [],[],_=>by simp [A2c]
 | [],_::_,_=>by simp [A2c]
 | _::_,[],_=>by simp [A2c]
 | x::xs,y::ys,h=>by
  have h1:=h x (by simp) y;have h2:=D9o xs ys fun t ht=>h t (by simp [ht]);rw [A2c];by_cases hc:A7c x y=0
  ·rw [if_neg (by simp [hc]),h2];simp [h1.1 hc]
  ·rw [if_pos hc];have:¬ x.er=y.er:=fun hh=>hc (h1.2 hh);simp [hc,this]
theorem D7q (t:Ty):∀ u,A7c t u=0↔t.er=u.er:=by
 induction t using Ty.induct with
 | h t ih =>
 intro u;have h2:=D9o t.args u.args ih;rw [B0v,C2q t,C2q u];by_cases hn:t.name=u.name
 ·rw [if_neg (by simp [A3m.2 hn]),h2];simp [hn]
 ·have:¬ A2r t.name u.name=0:=fun hh=>hn (A3m.1 hh);rw [if_pos this];simp [this,hn]
theorem F4f (t u:Ty):B2c t u=true↔t.er=u.er:=by unfold B2c;rw [decide_eq_true_eq];exact D7q t u
def Formal.er (f:Formal):Formal:=⟨f.name,f.bound.er,0⟩
def Param.er (f:Param):Param:=⟨f.name,f.type.er,0⟩
def Sig.er (s:Sig):Sig:=⟨s.name,s.formals.map Formal.er,s.params.map Param.er,s.result.er,0⟩
theorem B6a (vars:List Str)(args:List Ty)(t:Ty):(t.subst vars args).er=t.er.subst vars (args.map Ty.er):=by
 induction t using Ty.induct with
 | h t ih =>
 rw [A4n,A4n vars (args.map Ty.er) t.er,F0a,F0y,List.length_map,List.length_map];by_cases hc:t.args.length=0∧0≤A1b t.name vars 0∧A1b t.name vars 0 < args.length
 ·have hlt:(A1b t.name vars 0).toNat < args.length:=by omega
  rw [if_pos hc,if_pos hc,C2q,mkN,mkA];rw [List.getElem?_map,List.getElem?_eq_getElem hlt,Option.map_some,Option.getD_some,Option.getD_some];generalize args[(A1b t.name vars 0).toNat]=u;rw [C2q u,C2q t];rfl
 ·rw [if_neg hc,if_neg hc,C2q,mkN,mkA,List.map_map,List.map_map];rw [C2q t,mkQ]
  congr 1
  refine List.map_congr_left fun u hu=>?_;exact ih u hu
theorem B9v {p:Prog} {env:List Formal} {x:Ty} {s:Sig}:s∈A3o p env x↔s∈C7a p env x:=(A4r _).mem_iff
theorem C1y (l:List Formal)(nm:Str):(A1b nm (A0d l) 0 = -1)∨∃ (k:Nat)(f:Formal),l[k]? = some f∧f.name=nm∧A1b nm (A0d l) 0=(k:Int):=by
 rcases A5k nm (A0d l) 0 with ⟨h,_⟩ | ⟨k,h1,h2⟩
 ·exact .inl h
 ·unfold A0d at h1;rw [List.getElem?_map,Option.map_eq_some_iff] at h1;obtain⟨f,hf,he⟩:=h1;exact .inr ⟨k,f,hf,he,by rw [h2];simp⟩
end Go.Abs
