/- layer 13's plain laws: implementing is reflexive and transitive; a declaration's own type is well formed -/
import Derived.Test.YtbhbfpjnenekpaaGreatDoorJS25
namespace Go.Abs
set_option linter.unusedSimpArgs false
set_option linter.unusedVariables false
open Go Go.Proofs
set_option maxRecDepth 100000
set_option maxHeartbeats 1000000
mutual
def Ty.er:Ty→Ty
 | .mk n a _=>.mk n (Ty.erL a) 0
def Ty.erL:List Ty→List Ty
 | []=>[]
 | t::ts=>t.er::Ty.erL ts
end
theorem erL_map:∀ l:List Ty,Ty.erL l=l.map Ty.er
 | []=>by rw [Ty.erL];rfl
 | t::l=>by rw [Ty.erL,erL_map l];rfl
theorem er_eq (t:Ty):t.er=.mk t.name (t.args.map Ty.er) 0:=by
 cases t with | mk n a p=>rw [Ty.er,erL_map];rfl
theorem cmpTL_er:∀ l m:List Ty,(∀ t,t∈l→∀ u,cmpT t u=0↔t.er=u.er)→(cmpTL l m=0↔l.map Ty.er=m.map Ty.er)
 | [],[],_=>by simp [cmpTL]
 | [],_::_,_=>by simp [cmpTL]
 | _::_,[],_=>by simp [cmpTL]
 | x::xs,y::ys,h=>by
  have h1:=h x (by simp) y
  have h2:=cmpTL_er xs ys fun t ht=>h t (by simp [ht])
  rw [cmpTL]
  by_cases hc:cmpT x y=0
  ·rw [if_neg (by simp [hc]),h2]
   simp [h1.1 hc]
  ·rw [if_pos hc]
   have:¬ x.er=y.er:=fun hh=>hc (h1.2 hh)
   simp [hc,this]
theorem cmpT_er (t:Ty):∀ u,cmpT t u=0↔t.er=u.er:=by
 induction t using Ty.induct with
 | h t ih =>
 intro u
 have h2:=cmpTL_er t.args u.args ih
 rw [cmpT_eq,er_eq t,er_eq u]
 by_cases hn:t.name=u.name
 ·rw [if_neg (by simp [cmpS_zero.2 hn]),h2]
  simp [hn]
 ·have:¬ cmpS t.name u.name=0:=fun hh=>hn (cmpS_zero.1 hh)
  rw [if_pos this]
  simp [this,hn]
theorem sameT_er (t u:Ty):sameT t u=true↔t.er=u.er:=by
 unfold sameT;rw [decide_eq_true_eq];exact cmpT_er t u
def Formal.er (f:Formal):Formal:=⟨f.name,f.bound.er,0⟩
def Param.er (f:Param):Param:=⟨f.name,f.type.er,0⟩
def Sig.er (s:Sig):Sig:=⟨s.name,s.formals.map Formal.er,s.params.map Param.er,s.result.er,0⟩
end Go.Abs
