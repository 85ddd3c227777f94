/- expr.All, visit: the nodes of an expression in order, for a range over a function; expr.Value; step.first -/
import Derived.Test.YtbhbfpjnenekpaaGreatDoorJSB
import Derived.Test.YtbhbfpjnenekpaaGreatDoorJAb7
namespace Go.Abs
set_option linter.unusedSimpArgs false
set_option linter.unusedVariables false
open Go Go.Proofs
set_option maxRecDepth 100000
set_option maxHeartbeats 1000000
structure Fits (Y:Yld)(j:Nat)(l:List Ex):Prop where
 P:Y.P=Tryz.prog
 N:j+l.length≤Y.N
 at_:∀ i e,l[i]? = some e→Y.xs (j+i)=exV e∧Y.go (j+i)=decide (e.kind=3)
theorem Fits.left {Y:Yld} {j:Nat} {l m:List Ex} (h:Fits Y j (l++m)):Fits Y j l where
 P:=h.P
 N:=by have:=h.N;rw [List.length_append] at this;omega
 at_:=fun i e he=>h.at_ i e (by rw [List.getElem?_append_left (List.getElem?_eq_some_iff.1 he).1];exact he)
theorem Fits.right {Y:Yld} {j:Nat} {l m:List Ex} (h:Fits Y j (l++m)):Fits Y (j+l.length) m where
 P:=h.P
 N:=by have:=h.N;rw [List.length_append] at this;omega
 at_:=fun i e he=>by
  have:=h.at_ (l.length+i) e (by rw [List.getElem?_append_right (by omega)];simpa using he)
  rw [Nat.add_assoc];exact this
theorem tySm_subst {vars:List Str} {args:List Ty} (ha:∀ u,u∈args→u.Sm):∀ t:Ty,t.Sm→(t.subst vars args).Sm:=by
 intro t
 induction t using Ty.induct with
 | h t ih =>
 intro h
 rw [subst_eq]
 split
 ·rename_i hc
  have hlt:(indexS t.name vars 0).toNat < args.length:=by omega
  rw [List.getElem?_eq_getElem hlt,Option.getD_some]
  have:=ha _ (List.getElem_mem hlt)
  exact .mk _ _ _ this.name this.len this.arg
 ·refine .mk _ _ _ h.name (by rw [List.length_map];exact h.len) fun u hu=>?_
  obtain⟨x,hx,rfl⟩:=List.mem_map.1 hu
  exact ih x hx (h.arg x hx)
theorem Ex.Sm.subst {vars:List Str} {args:List Ty} (ha:∀ u,u∈args→u.Sm)(e:Ex):e.Sm→(e.subst vars args).Sm:=by
 induction e using Ex.induct with
 | h e ih =>
 intro h
 unfold Ex.subst
 rw [mapped_eq]
 refine .mk _ _ _ _ _ _ h.name (tySm_subst ha _ h.type) ?_ ?_ ?_ ?_
 ·show (e.targs.map (Ty.subst vars args)).length≤sm
  rw [List.length_map];exact h.targs.1
 ·intro t ht
  have ht:t∈e.targs.map (Ty.subst vars args):=ht
  obtain⟨u,hu,rfl⟩:=List.mem_map.1 ht
  exact tySm_subst ha _ (h.targs.2 u hu)
 ·show (e.kids.map _).length≤sm
  rw [List.length_map];exact h.kids.1
 ·intro k hk
  have hk:k∈e.kids.map (Ex.mapped (Ex.sub1 vars args)):=hk
  obtain⟨u,hu,rfl⟩:=List.mem_map.1 hk
  exact ih u hu (h.kids.2 u hu)
def replG (vars:List Str)(vals:List Ex)(e:Ex):Ex:=if e.kind=1∧0≤indexS e.name vars 0∧indexS e.name vars 0 < vals.length then (vals[(indexS e.name vars 0).toNat]?).getD e else e
def Ex.repl (vars:List Str)(vals:List Ex):Ex→Ex:=Ex.mapped (replG vars vals)
end Go.Abs
