/- bind.Canon, castingsref10.Canon -/
import Derived.Test.YtaneedhchnaniaaGreatDoorQAb7
import Derived.Test.YtaneedhchnaniaaGreatDoorQS12
import Derived.Test.YtaneedhchnaniaaGreatDoorQS13
namespace Go.Abs
set_option linter.unusedSimpArgs false
set_option linter.unusedVariables false
open Go Go.Proofs Tryz
set_option maxRecDepth 100000
set_option maxHeartbeats 1000000
def localT (i:Nat):Ty:=.mk (localS i) [] 0
def localTs (n:Nat):List Ty:=(List.range n).map localT
theorem localTs_succ (j:Nat):tyR (localTs (j+1))=tyR (localTs j)++[[D.str (localS j),.slice [],.int .i64 0]]:=by
 simp only [localTs,List.range_succ,List.map_append,tyR_map,List.map_cons,List.map_nil,localT,tyC,Ty.name,Ty.args,Ty.pos]
theorem localT_Sm (i:Nat)(h:i≤sm):(localT i).Sm:=.mk _ _ _ (Nat.le_trans (localS_len i h) (by decide)) (by simp) (by simp)
theorem localTs_Sm (n:Nat)(h:n≤sm):∀ u,u∈localTs n→u.Sm:=fun u hu=>by
 obtain⟨i,hi,rfl⟩:=List.mem_map.1 hu
 exact localT_Sm i (by have:=List.mem_range.1 hi;omega)
def fnames (l:List Formal):List Str:=l.map (·.name)
def canF (s:Sig)(j:Nat):List Formal:=s.formals.mapIdx fun i f=>⟨if i < j then localS i else f.name,f.bound.subst (fnames s.formals) (localTs s.formals.length),f.pos⟩
def canP (s:Sig)(j:Nat):List Param:=s.params.mapIdx fun i p=>⟨if i < j then [] else p.name,p.type.subst (fnames s.formals) (localTs s.formals.length),p.pos⟩
def Sig.canon (s:Sig):Sig:=⟨s.name,canF s s.formals.length,canP s s.params.length,s.result.subst (fnames s.formals) (localTs s.formals.length),s.pos⟩
theorem canF_len (s:Sig)(j:Nat):(canF s j).length=s.formals.length:=by simp [canF]
theorem canP_len (s:Sig)(j:Nat):(canP s j).length=s.params.length:=by simp [canP]
theorem canF_zero (s:Sig):canF s 0=s.formals.map (Formal.subst (fnames s.formals) (localTs s.formals.length)):=by
 refine List.ext_getElem? fun i=>?_
 simp only [canF,List.getElem?_mapIdx,List.getElem?_map,Nat.not_lt_zero,if_false];rfl
theorem canP_zero (s:Sig):canP s 0=s.params.map (Param.subst (fnames s.formals) (localTs s.formals.length)):=by
 refine List.ext_getElem? fun i=>?_
 simp only [canP,List.getElem?_mapIdx,List.getElem?_map,Nat.not_lt_zero,if_false];rfl
theorem canF_get {s:Sig} {j:Nat} {d:Formal} (i:Nat)(h:s.formals[j]? = some d):(foR (canF s i))[j]? = some (foC ⟨if j < i then localS j else d.name,d.bound.subst (fnames s.formals) (localTs s.formals.length),d.pos⟩):=by
 simp only [foR,canF,List.getElem?_map,List.getElem?_mapIdx,h,Option.map_some]
theorem canP_get {s:Sig} {j:Nat} {d:Param} (i:Nat)(h:s.params[j]? = some d):(paR (canP s i))[j]? = some (paC ⟨if j < i then [] else d.name,d.type.subst (fnames s.formals) (localTs s.formals.length),d.pos⟩):=by
 simp only [paR,canP,List.getElem?_map,List.getElem?_mapIdx,h,Option.map_some]
theorem canF_set {s:Sig} {j:Nat} {d:Formal} (h:s.formals[j]? = some d):(foR (canF s j)).set j (foC ⟨localS j,d.bound.subst (fnames s.formals) (localTs s.formals.length),d.pos⟩)=foR (canF s (j+1)):=by
 refine List.ext_getElem? fun i=>?_
 rw [List.getElem?_set]
 split
 ·rename_i hij
  subst hij
  rw [if_pos (by rw [foR,List.length_map,canF_len];exact (List.getElem?_eq_some_iff.1 h).1),canF_get _ h,if_pos (by omega)]
 ·rename_i hij
  cases hi:s.formals[i]? with
  | none=>simp [foR,canF,hi]
  | some e =>
   rw [canF_get _ hi,canF_get _ hi]
   by_cases h1:i < j
   ·rw [if_pos h1,if_pos (by omega)]
   ·rw [if_neg h1,if_neg (by omega)]
theorem canP_set {s:Sig} {j:Nat} {d:Param} (h:s.params[j]? = some d):(paR (canP s j)).set j (paC ⟨[],d.type.subst (fnames s.formals) (localTs s.formals.length),d.pos⟩)=paR (canP s (j+1)):=by
 refine List.ext_getElem? fun i=>?_
 rw [List.getElem?_set]
 split
 ·rename_i hij
  subst hij
  rw [if_pos (by rw [paR,List.length_map,canP_len];exact (List.getElem?_eq_some_iff.1 h).1),canP_get _ h,if_pos (by omega)]
 ·rename_i hij
  cases hi:s.params[i]? with
  | none=>simp [paR,canP,hi]
  | some e =>
   rw [canP_get _ hi,canP_get _ hi]
   by_cases h1:i < j
   ·rw [if_pos h1,if_pos (by omega)]
   ·rw [if_neg h1,if_neg (by omega)]
abbrev cgC (s:Sig):List SV:=sgC s (fnames s.formals) (localTs s.formals.length) (.acc 900) (.acc 901)
abbrev q1M:List Nat:=[0,1,2,3,4,5,6,7,10,11,12,29,30,31,43,44,45,900,901]
theorem ok_BCanonO (s:Sig)(h:s.Sm):CallB prog 132 [siV s] [] (.agg (cgC s)) [(900,.rows 5 (foR (canF s s.formals.length))),(901,.rows 5 (paR (canP s s.params.length)))]:=by
 have hl1:=h.formals.1
 have hl2:=h.params.1
 have hsub:=ok_BSubstO (fnames s.formals) (localTs s.formals.length) (localTs_Sm _ hl1) s h
 rw [sgB,← canF_zero,← canP_zero] at hsub
 refine bB func132 ?_
 refine sR q1M ?_
 refine sR q1M ?_
 refine AWp.promote 3 3 3 rfl ?_
 refine kR q1M fun K1 u1=>?_
 refine AWp.block (AWp.forIdx s.formals (X:=Unit) (fun j _=>[(1,.box 1 0),(2,.box 2 0),(3,.acc 3),(10,intV s.formals.length),(11,intV j)])
  (fun j _=>[(1,.cells (siL s)),(2,.cells si0),(3,.rows 3 (tyR (localTs j)))])
  (fun j _=>True) () trivial sS (by simp [ble,bget,localTs,tyR_map]) ?_ ?_)
 ·intro _ _
  refine sR1 Int.lt_irrefl q1M ?_
  refine AWp.stop rfl ?_
  simp only [thenA,blockA,if_true]
  refine u1 _ _ ?_
  clear u1 K1
  refine AWp.publish 3 rfl ?_
  refine AWp.weaken (sl':=[(1,.box 1 0),(2,.box 2 0),(3,tysV (localTs s.formals.length))]) (bx':=[(1,.cells (siL s)),(2,.cells si0)])
   (by simp [subSl,SV.sub,sle,vle,sget]) (by simp [subBx,BoxC.sub,SV.subL,SV.sub,ble,bget,berase]) ?_
  (refine sG q1M [800026] 7 [⟨[],[],[5],[5]⟩,⟨[],[],[5],[5]⟩,⟨[],[],[5],[5]⟩,⟨[],[],[5],[5]⟩,⟨[],[],[5],[5]⟩,⟨[900,901],[900,901],[5],[5]⟩,⟨[5],[5],[900,901],[900,901]⟩] fun K z=>?_;refine ev ?_;refine cc (ok_Names s.formals hl1) ?_;refine⟨_,_,_,opB_call2 900 901 rfl rfl hsub rfl (by decide) (by decide) (by decide) (by decide) rfl rfl,?_⟩;(try simp -implicitDefEqProofs only [EV,Nat.reduceAdd,Nat.reduceEqDiff,Nat.reduceBEq,Nat.reduceLeDiff,reduceCtorEq,TF59,SV.ren,SV.renL,two]);apply z;clear z K)
  refine AWp.weaken (sl':=[(2,.box 2 0),(5,.box 5 0)]) (bx':=[(2,.cells si0),(5,.cells (cgC s)),(900,.rows 5 (foR (canF s 0))),(901,.rows 5 (paR (canP s 0)))])
   sS sB ?_
  refine kR q1M fun K1 u1=>?_
  refine AWp.block (AWp.forIdx s.formals (X:=Unit) (fun j _=>[(2,.box 2 0),(5,.box 5 0),(29,intV s.formals.length),(30,intV j)])
   (fun j _=>[(2,.cells si0),(5,.cells (cgC s)),(900,.rows 5 (foR (canF s j))),(901,.rows 5 (paR (canP s 0)))])
   (fun j _=>True) () trivial (by simp [sle,vle,sget,canF_len]) sB ?_ ?_)
  ·intro _ _
   refine sR1 Int.lt_irrefl q1M ?_
   refine AWp.stop rfl ?_
   simp only [thenA,blockA,if_true]
   refine u1 _ _ ?_
   clear u1 K1
   refine kR q1M fun K1 u1=>?_
   refine AWp.block (AWp.forIdx s.params (X:=Unit) (fun j _=>[(2,.box 2 0),(5,.box 5 0),(43,intV s.params.length),(44,intV j)])
    (fun j _=>[(2,.cells si0),(5,.cells (cgC s)),(900,.rows 5 (foR (canF s s.formals.length))),(901,.rows 5 (paR (canP s j)))])
    (fun j _=>True) () trivial (by simp [sle,vle,sget,canP_len]) sB ?_ ?_)
   ·intro _ _
    refine sR1 Int.lt_irrefl q1M ?_
    refine AWp.stop rfl ?_
    simp only [thenA,blockA,if_true]
    refine u1 _ _ ?_
    refine sR q1M ?_
    exact AWp.ret ⟨_,by rw [results132];rfl,.inl rfl,by simp [ble,bget]⟩
   ·intro j _ d hd hmem dp tk hlt _
    refine sR1 hlt q1M ?_
    refine AWp.goOn rfl ?_
    refine sK fun K2 u2=>?_
    refine AWp.block ?_
    refine sR q1M ?_
    (refine lV q1M fun K z=>?_;refine⟨by omega,by rw [canP_len];omega,?_⟩;(try refine ev ?_);refine⟨_,[D.str []],canP_get j hd,rfl,by simp [paC],?_⟩;(try refine ev ?_);apply z;clear z K;try simp only [thenA,blockA])
    refine u2 _ _ ?_
    clear u2 K2
    refine lT q1M ?_
    exact⟨(),trivial,sS,by simp [ble,bget,← canP_set hd,paC]⟩
  ·intro j _ d hd hmem dp tk hlt _
   refine sR1 hlt q1M ?_
   refine AWp.goOn rfl ?_
   refine sK fun K2 u2=>?_
   refine AWp.block ?_
   refine sR q1M ?_
   (refine lG q1M [] 5 [] fun K z=>?_;refine ev ?_;refine cc (ok_Local j (by omega)) ?_;refine⟨by omega,by rw [canF_len];omega,?_⟩;(try refine ev ?_);refine⟨_,[D.str (localS j)],canF_get j hd,rfl,by simp [foC],?_⟩;(try refine ev ?_);apply z;clear z K;try simp only [thenA,blockA])
   refine u2 _ _ ?_
   clear u2 K2
   refine lT q1M ?_
   exact⟨(),trivial,sS,by simp [ble,bget,← canF_set hd,foC]⟩
 ·intro j _ d hd hmem dp tk hlt _
  rw [localTs_succ]
  refine sR1 hlt q1M ?_
  refine AWp.goOn rfl ?_
  refine sK fun K2 u2=>?_
  refine AWp.block ?_
  refine sR q1M ?_
  (refine lV q1M fun K z=>?_;refine cc (ok_Local j (by omega)) ?_;refine⟨by simp,by simp only [localTs,List.length_map,List.length_range];unfold lim sm at *;omega,?_⟩;(try refine ev ?_);apply z;clear z K;try simp only [thenA,blockA])
  refine u2 _ _ ?_
  clear u2 K2
  refine lT q1M ?_
  refine⟨(),trivial,sS,?_⟩
  simp [ble,bget]
theorem ok_BCanon (s:Sig)(h:s.Sm):CallOK prog 132 [siV s] (siV s.canon):=(ok_BCanonO s h).pubAll rfl rfl
end Go.Abs
