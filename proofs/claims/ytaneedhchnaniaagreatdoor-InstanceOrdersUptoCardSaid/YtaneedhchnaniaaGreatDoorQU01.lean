/- castingsref21: sets of types and calls: Compare, PutType, PutCall, Size, large -/
import Derived.Test.YtaneedhchnaniaaGreatDoorQV05
import Derived.Test.YtaneedhchnaniaaGreatDoorQS12
namespace Go.Abs
set_option linter.unusedSimpArgs false
set_option linter.unusedVariables false
open Go Go.Proofs Tryz
set_option maxRecDepth 100000
set_option maxHeartbeats 1000000
structure CallT where
 on:Ty
 name:Str
 targs:List Ty
structure SetT where
 types:List Ty
 calls:List CallT
 large:Bool
def caC (c:CallT):List D:=[.str c.on.name,.slice (tyR c.on.args),.int .i64 c.on.pos,.str c.name,.slice (tyR c.targs)]
def caR (l:List CallT):List (List D):=l.map caC
abbrev caS (c:CallT):List SV:=[.d (.str c.on.name),.d (.slice (tyR c.on.args)),.d (.int .i64 c.on.pos),.d (.str c.name),.d (.slice (tyR c.targs))]
abbrev caV (c:CallT):SV:=.agg (caS c)
theorem caR_len (l:List CallT):(caR l).length=l.length:=by simp [caR]
theorem caR_get {l:List CallT} {i:Nat} {c:CallT} (h:l[i]? = some c):(caR l)[i]? = some (caC c):=by simp [caR,h]
structure CallT.Sm (c:CallT):Prop where
 on:c.on.Sm
 name:c.name.length≤sm
 targs:c.targs.length≤sm∧∀ t,t∈c.targs→t.Sm
structure SetT.Sm (s:SetT):Prop where
 types:s.types.length≤sm∧∀ t,t∈s.types→t.Sm
 calls:s.calls.length≤sm∧∀ t,t∈s.calls→t.Sm
def cmpC (a b:CallT):Int:=if cmpT a.on b.on=0 then (if cmpS a.name b.name=0 then cmpT (.mk [] a.targs 0) (.mk [] b.targs 0) else cmpS a.name b.name) else cmpT a.on b.on
abbrev q1jx:List Nat:=[0,1,2,3,4,5,12,19]
theorem ok_RCompareC (a:CallT)(ha:a.Sm)(b:CallT):CallOK prog 9 [caV a,caV b] (intV (cmpC a b)):=by
 have h1:=ok_RCompare a.on ha.on b.on
 have h2:=ok_Compare a.name b.name
 have h3:=ok_RCompare (.mk [] a.targs 0) (.mk _ _ _ (by simp [sm]) ha.targs.1 ha.targs.2) (.mk [] b.targs 0)
 unfold cmpC
 generalize cmpT (.mk [] a.targs 0) (.mk [] b.targs 0)=z at *
 generalize cmpT a.on b.on=x at *
 generalize cmpS a.name b.name=y at *
 by_cases hx:x=0
 ·subst hx
  rw [if_pos rfl]
  by_cases hy:y=0
  ·subst hy
   rw [if_pos rfl]
   refine cB func9 ?_
   refine sR q1jx ?_
   refine sC h1 q1jx ?_
   refine kR q1jx fun K1 u1=>?_
   refine AWp.condT rfl ?_
   (refine lV q1jx fun K z=>?_;refine cc h2 ?_;apply z;clear z K;try simp only [thenA,])
   refine u1 _ _ ?_
   clear u1 K1
   refine kR q1jx fun K1 u1=>?_
   refine AWp.condT rfl ?_
   (refine lV q1jx fun K z=>?_;refine cc h3 ?_;apply z;clear z K;try simp only [thenA,])
   refine u1 _ _ ?_
   refine sR q1jx ?_
   exact aR
  ·rw [if_neg hy]
   refine cB func9 ?_
   refine sR q1jx ?_
   refine sC h1 q1jx ?_
   refine kR q1jx fun K1 u1=>?_
   refine AWp.condT rfl ?_
   (refine lV q1jx fun K z=>?_;refine cc h2 ?_;apply z;clear z K;try simp only [thenA,])
   refine u1 _ _ ?_
   clear u1 K1
   refine kR1 hy q1jx fun K1 u1=>?_
   refine AWp.condF rfl (AWp.skip (u1 _ _ ?_))
   refine sR q1jx ?_
   exact aR
 ·rw [if_neg hx]
  refine cB func9 ?_
  refine sR q1jx ?_
  refine sC h1 q1jx ?_
  refine kR1 hx q1jx fun K1 u1=>?_
  refine AWp.condF rfl (AWp.skip (u1 _ _ ?_))
  clear u1 K1
  refine kR1 hx q1jx fun K1 u1=>?_
  refine AWp.condF rfl (AWp.skip (u1 _ _ ?_))
  refine sR q1jx ?_
  exact aR
end Go.Abs
