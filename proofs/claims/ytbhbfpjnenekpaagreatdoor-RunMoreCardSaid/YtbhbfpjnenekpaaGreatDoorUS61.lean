/- the walk of StepProgress -/
import Derived.Test.YtbhbfpjnenekpaaGreatDoorUS58
import Derived.Test.YtbhbfpjnenekpaaGreatDoorUT07
import Derived.Test.YtbhbfpjnenekpaaGreatDoorUS45
import Derived.Test.YtbhbfpjnenekpaaGreatDoorUS34
namespace Go.Abs
set_option linter.unusedSimpArgs false
set_option linter.unusedVariables false
open Go Go.Proofs
set_option maxRecDepth 100000
set_option maxHeartbeats 4000000
theorem repl_Sm {vars:List Str} {vals:List Ex} (ha:∀ u,u∈vals→u.Sm):∀ e:Ex,e.Sm→(e.repl vars vals).Sm:=by
 intro e
 induction e using Ex.induct with | _ e ih=>?_
 intro he
 rw [erepl_eq]
 have hk:(e.kidded (e.kids.map (Ex.repl vars vals))).Sm:=.mk _ _ _ _ _ _ he.name he.type he.targs.1 he.targs.2 (by rw [List.length_map];exact he.kids.1) fun u hu=>by
  obtain⟨x,hx,rfl⟩:=List.mem_map.1 hu
  exact ih x hx (he.kids.2 x hx)
 unfold replG
 split
 ·cases hv:vals[(indexS (e.kidded (e.kids.map (Ex.repl vars vals))).name vars 0).toNat]? with
  | none=>exact hk
  | some u=>exact ha u (List.mem_of_getElem? hv)
 ·exact hk
theorem stepE_Sm {p:Prog} (h:p.Sm):∀ e:Ex,e.Sm→(stepE p e).1.Sm:=by
 intro e
 induction e using Ex.induct with | _ e ih=>?_
 intro he
 rw [stepE_eq]
 rcases stepL_cases p e.kids with ⟨_,hb⟩ | ⟨i,k,_,hi,_,_,hb⟩
 ·rw [hb]
  simp only
  unfold redexE
  split
  ·exact he
  ·split
   ·exact he
   ·rename_i v hv
    have hvs:=he.kids.2 v (List.mem_of_getElem? hv)
    split
    ·unfold callE
     split
     ·exact he
     ·rename_i d hd
      split
      ·exact repl_Sm he.kids.2 _ (Ex.Sm.subst (fun u hu=>(List.mem_append.1 hu).elim (hvs.type.arg u) (he.targs.2 u)) _ (h.decls.2 d (methD_mem hd)).body)
      ·exact he
    split
    ·unfold selE
     split
     ·simp only
      cases hx:v.kids[(idxF (fun f:Param=>decide (f.name=e.name)) (fieldsT p v.type)).toNat]? with
      | none=>exact hvs
      | some x=>exact hvs.kids.2 x (List.mem_of_getElem? hx)
     ·exact he
    split
    ·unfold asrtE
     split
     ·exact hvs
     ·exact he
    ·exact he
 ·rw [hb]
  simp only
  split
  ·refine .mk _ _ _ _ _ _ he.name he.type he.targs.1 he.targs.2 (by rw [List.length_set];exact he.kids.1) fun u hu=>?_
   rcases List.mem_or_eq_of_mem_set hu with hu | rfl
   ·exact he.kids.2 u hu
   ·exact ih k (List.mem_of_getElem? hi) (he.kids.2 k (List.mem_of_getElem? hi))
  ·exact he
end Go.Abs
