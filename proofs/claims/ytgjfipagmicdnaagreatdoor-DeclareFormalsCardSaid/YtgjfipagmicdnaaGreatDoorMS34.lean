/- expr.Replace; castingsref05.Subst, Replace -/
import Derived.Test.YtgjfipagmicdnaaGreatDoorMS33
import Derived.Test.YtgjfipagmicdnaaGreatDoorMSB
namespace Go.Abs
set_option linter.unusedSimpArgs false
set_option linter.unusedVariables false
open Go Go.Proofs
set_option maxRecDepth 100000
set_option maxHeartbeats 1000000
theorem tySm_subst {vars:List Str} {args:List Ty} (ha:∀ u,u∈args→u.Sm):∀ t:Ty,t.Sm→(t.subst vars args).Sm:=by
 intro t
 induction t using Ty.induct with
 | h t ih =>
 intro h
 rw [subst_eq]
 split
 ·rename_i hc
  have hlt:(indexS t.name vars 0).toNat < args.length:=by omega
  rw [List.getElem?_eq_getElem hlt,Option.getD_some]
  have:=ha _ (List.getElem_mem hlt)
  exact .mk _ _ _ this.name this.len this.arg
 ·refine .mk _ _ _ h.name (by rw [List.length_map];exact h.len) fun u hu=>?_
  obtain⟨x,hx,rfl⟩:=List.mem_map.1 hu
  exact ih x hx (h.arg x hx)
theorem Ex.Sm.subst {vars:List Str} {args:List Ty} (ha:∀ u,u∈args→u.Sm)(e:Ex):e.Sm→(e.subst vars args).Sm:=by
 induction e using Ex.induct with
 | h e ih =>
 intro h
 unfold Ex.subst
 rw [mapped_eq]
 refine .mk _ _ _ _ _ _ h.name (tySm_subst ha _ h.type) ?_ ?_ ?_ ?_
 ·show (e.targs.map (Ty.subst vars args)).length≤sm
  rw [List.length_map];exact h.targs.1
 ·intro t ht
  have ht:t∈e.targs.map (Ty.subst vars args):=ht
  obtain⟨u,hu,rfl⟩:=List.mem_map.1 ht
  exact tySm_subst ha _ (h.targs.2 u hu)
 ·show (e.kids.map _).length≤sm
  rw [List.length_map];exact h.kids.1
 ·intro k hk
  have hk:k∈e.kids.map (Ex.mapped (Ex.sub1 vars args)):=hk
  obtain⟨u,hu,rfl⟩:=List.mem_map.1 hk
  exact ih u hu (h.kids.2 u hu)
end Go.Abs
