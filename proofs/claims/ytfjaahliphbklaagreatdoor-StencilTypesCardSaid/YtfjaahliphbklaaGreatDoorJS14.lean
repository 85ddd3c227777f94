/- bind.Canon, castingsref10.Canon -/
import Derived.Test.YtfjaahliphbklaaGreatDoorJS12
import Derived.Test.YtfjaahliphbklaaGreatDoorJS13
namespace Go.Abs
set_option linter.unusedSimpArgs false
set_option linter.unusedVariables false
open Go Go.Proofs Tryz
set_option maxRecDepth 100000
set_option maxHeartbeats 1000000
def B8p (i:Nat):Ty:=.mk (A1x i) [] 0
def A1g (n:Nat):List Ty:=(List.range n).map B8p
theorem B8x (j:Nat):tyR (A1g (j+1))=tyR (A1g j)++[[D.str (A1x j),.slice [],.int .i64 0]]:=by simp only [A1g,List.range_succ,List.map_append,A1o,List.map_cons,List.map_nil,B8p,tyC,Ty.name,Ty.args,Ty.pos]
theorem E9n (i:Nat)(h:i≤sm):(B8p i).Sm:=.mk _ _ _ (Nat.le_trans (C4w i h) (by decide)) (by simp) (by simp)
theorem B7c (n:Nat)(h:n≤sm):∀ u,u∈A1g n→u.Sm:=fun u hu=>by obtain⟨i,hi,rfl⟩:=List.mem_map.1 hu;exact E9n i (by have:=List.mem_range.1 hi;omega)
def A0d (l:List Formal):List Str:=l.map (·.name)
def C9y (s:Sig)(j:Nat):List Formal:=s.formals.mapIdx fun i f=>⟨if i < j then A1x i else f.name,f.bound.subst (A0d s.formals) (A1g s.formals.length),f.pos⟩
def C9f (s:Sig)(j:Nat):List Param:=s.params.mapIdx fun i p=>⟨if i < j then [] else p.name,p.type.subst (A0d s.formals) (A1g s.formals.length),p.pos⟩
def Sig.canon (s:Sig):Sig:=⟨s.name,C9y s s.formals.length,C9f s s.params.length,s.result.subst (A0d s.formals) (A1g s.formals.length),s.pos⟩
theorem A5b (s:Sig)(j:Nat):(C9y s j).length=s.formals.length:=by simp [C9y]
theorem A4m (s:Sig)(j:Nat):(C9f s j).length=s.params.length:=by simp [C9f]
theorem D0z (s:Sig):C9y s 0=s.formals.map (Formal.subst (A0d s.formals) (A1g s.formals.length)):=by refine List.ext_getElem? fun i=>?_;simp only [C9y,List.getElem?_mapIdx,List.getElem?_map,Nat.not_lt_zero,if_false];rfl
theorem D3v (s:Sig):C9f s 0=s.params.map (Param.subst (A0d s.formals) (A1g s.formals.length)):=by refine List.ext_getElem? fun i=>?_;simp only [C9f,List.getElem?_mapIdx,List.getElem?_map,Nat.not_lt_zero,if_false];rfl
theorem B5o {s:Sig} {j:Nat} {d:Formal} (i:Nat)(h:s.formals[j]? = some d):(foR (C9y s i))[j]? = some (foC ⟨if j < i then A1x j else d.name,d.bound.subst (A0d s.formals) (A1g s.formals.length),d.pos⟩):=by simp only [foR,C9y,List.getElem?_map,List.getElem?_mapIdx,h,Option.map_some]
theorem B6p {s:Sig} {j:Nat} {d:Param} (i:Nat)(h:s.params[j]? = some d):(paR (C9f s i))[j]? = some (paC ⟨if j < i then [] else d.name,d.type.subst (A0d s.formals) (A1g s.formals.length),d.pos⟩):=by simp only [paR,C9f,List.getElem?_map,List.getElem?_mapIdx,h,Option.map_some]
theorem D9a {s:Sig} {j:Nat} {d:Formal} (h:s.formals[j]? = some d):(foR (C9y s j)).set j (foC ⟨A1x j,d.bound.subst (A0d s.formals) (A1g s.formals.length),d.pos⟩)=foR (C9y s (j+1)):=by
 refine List.ext_getElem? fun i=>?_;rw [List.getElem?_set];split
 ·rename_i hij;subst hij;rw [if_pos (by rw [foR,List.length_map,A5b];exact (List.getElem?_eq_some_iff.1 h).1),B5o _ h,if_pos (by omega)]
 ·rename_i hij;cases hi:s.formals[i]? with
  | none=>simp [foR,C9y,hi]
  | some e =>
   rw [B5o _ hi,B5o _ hi];by_cases h1:i < j
   ·rw [if_pos h1,if_pos (by omega)]
   ·rw [if_neg h1,if_neg (by omega)]
theorem E1c {s:Sig} {j:Nat} {d:Param} (h:s.params[j]? = some d):(paR (C9f s j)).set j (paC ⟨[],d.type.subst (A0d s.formals) (A1g s.formals.length),d.pos⟩)=paR (C9f s (j+1)):=by
 refine List.ext_getElem? fun i=>?_;rw [List.getElem?_set];split
 ·rename_i hij;subst hij;rw [if_pos (by rw [paR,List.length_map,A4m];exact (List.getElem?_eq_some_iff.1 h).1),B6p _ h,if_pos (by omega)]
 ·rename_i hij;cases hi:s.params[i]? with
  | none=>simp [paR,C9f,hi]
  | some e =>
   rw [B6p _ hi,B6p _ hi];by_cases h1:i < j
   ·rw [if_pos h1,if_pos (by omega)]
   ·rw [if_neg h1,if_neg (by omega)]
abbrev cgC (s:Sig):List SV:=sgC s (A0d s.formals) (A1g s.formals.length) (.acc 900) (.acc 901)
abbrev q1E:List Nat:=[0,1,2,3,4,5,6,7,10,11,12,29,30,31,43,44,45,900,901]
theorem E5m (s:Sig)(h:s.Sm):A1p prog 95 [siV s] [] (.agg (cgC s)) [(900,.rows 5 (foR (C9y s s.formals.length))),(901,.rows 5 (paR (C9f s s.params.length)))]:=by
 have hl1:=h.formals.1;have hl2:=h.params.1;have hsub:=C6v (A0d s.formals) (A1g s.formals.length) (B7c _ hl1) s h;rw [sgB,← D0z,← D3v] at hsub;refine bB func95 ?_;refine sR q1E ?_;refine sR q1E ?_;refine AWp.pp 3 3 3 rfl ?_;refine kR q1E fun K1 u1=>?_;refine AWp.bb (AWp.ii s.formals (X:=Unit) (fun j _=>[(1,.box 1 0),(2,.box 2 0),(3,.acc 3),(10,A0g s.formals.length),(11,A0g j)])
  (fun j _=>[(1,.cells (siL s)),(2,.cells si0),(3,.rows 3 (tyR (A1g j)))])
  (fun j _=>True) () trivial sS (by simp [ble,A0h,A1g,A1o]) ?_ ?_)
 ·intro _ _;refine sR1 Int.lt_irrefl q1E ?_;refine AWp.stop rfl ?_;simp only [TB];refine u1 _ _ ?_;clear u1 K1;refine AWp.publish 3 rfl ?_;refine AWp.ww (sl':=[(1,.box 1 0),(2,.box 2 0),(3,A3s (A1g s.formals.length))]) (bx':=[(1,.cells (siL s)),(2,.cells si0)])
   (by simp [B1e,SV.sub,sle,vle,A0k]) (by simp [A9n,BoxC.sub,SV.subL,SV.sub,ble,A0h,A0o]) ?_
  (refine sG q1E [800026] 7 [⟨[],[],[5],[5]⟩,⟨[],[],[5],[5]⟩,⟨[],[],[5],[5]⟩,⟨[],[],[5],[5]⟩,⟨[],[],[5],[5]⟩,⟨[900,901],[900,901],[5],[5]⟩,⟨[5],[5],[900,901],[900,901]⟩] fun K z=>?_;refine ev ?_;refine cc (B5f s.formals hl1) ?_;refine⟨_,_,_,C1c 900 901 rfl rfl hsub rfl (by decide) (by decide) (by decide) (by decide) rfl rfl,?_⟩;(try simp -implicitDefEqProofs only [EV,Nat.reduceAdd,Nat.reduceEqDiff,Nat.reduceBEq,Nat.reduceLeDiff,reduceCtorEq,B6e,SV.ren,SV.renL,two]);apply z;clear z K)
  refine AWp.ww (sl':=[(2,.box 2 0),(5,.box 5 0)]) (bx':=[(2,.cells si0),(5,.cells (cgC s)),(900,.rows 5 (foR (C9y s 0))),(901,.rows 5 (paR (C9f s 0)))])
   sS sB ?_
  refine kR q1E fun K1 u1=>?_;refine AWp.bb (AWp.ii s.formals (X:=Unit) (fun j _=>[(2,.box 2 0),(5,.box 5 0),(29,A0g s.formals.length),(30,A0g j)])
   (fun j _=>[(2,.cells si0),(5,.cells (cgC s)),(900,.rows 5 (foR (C9y s j))),(901,.rows 5 (paR (C9f s 0)))])
   (fun j _=>True) () trivial (by simp [sle,vle,A0k,A5b]) sB ?_ ?_)
  ·intro _ _;refine sR1 Int.lt_irrefl q1E ?_;refine AWp.stop rfl ?_;simp only [TB];refine u1 _ _ ?_;clear u1 K1;refine kR q1E fun K1 u1=>?_;refine AWp.bb (AWp.ii s.params (X:=Unit) (fun j _=>[(2,.box 2 0),(5,.box 5 0),(43,A0g s.params.length),(44,A0g j)])
    (fun j _=>[(2,.cells si0),(5,.cells (cgC s)),(900,.rows 5 (foR (C9y s s.formals.length))),(901,.rows 5 (paR (C9f s j)))])
    (fun j _=>True) () trivial (by simp [sle,vle,A0k,A4m]) sB ?_ ?_)
   ·intro _ _;refine sR1 Int.lt_irrefl q1E ?_;refine AWp.stop rfl ?_;simp only [TB];refine u1 _ _ ?_;refine sR q1E ?_;exact AWp.ret ⟨_,by rw [results95];rfl,.inl rfl,by simp [ble,A0h]⟩
   ·intro j _ d hd hmem dp tk hlt _;refine sR1 hlt q1E ?_;refine AWp.goOn rfl ?_;refine sK fun K2 u2=>?_;refine AWp.bb ?_;refine sR q1E ?_
    (refine lV q1E fun K z=>?_;refine⟨by omega,by rw [A4m];omega,?_⟩;(try refine ev ?_);refine⟨_,[D.str []],B6p j hd,rfl,by simp [paC],?_⟩;(try refine ev ?_);apply z;clear z K;try simp only [A0c,A0e])
    refine u2 _ _ ?_;clear u2 K2;refine lT q1E ?_;exact⟨(),trivial,sS,by simp [ble,A0h,← E1c hd,paC]⟩
  ·intro j _ d hd hmem dp tk hlt _;refine sR1 hlt q1E ?_;refine AWp.goOn rfl ?_;refine sK fun K2 u2=>?_;refine AWp.bb ?_;refine sR q1E ?_
   (refine lG q1E [] 5 [] fun K z=>?_;refine ev ?_;refine cc (D0g j (by omega)) ?_;refine⟨by omega,by rw [A5b];omega,?_⟩;(try refine ev ?_);refine⟨_,[D.str (A1x j)],B5o j hd,rfl,by simp [foC],?_⟩;(try refine ev ?_);apply z;clear z K;try simp only [A0c,A0e])
   refine u2 _ _ ?_;clear u2 K2;refine lT q1E ?_;exact⟨(),trivial,sS,by simp [ble,A0h,← D9a hd,foC]⟩
 ·intro j _ d hd hmem dp tk hlt _;rw [B8x];refine sR1 hlt q1E ?_;refine AWp.goOn rfl ?_;refine sK fun K2 u2=>?_;refine AWp.bb ?_;refine sR q1E ?_
  (refine lV q1E fun K z=>?_;refine cc (D0g j (by omega)) ?_;refine⟨by simp,by simp only [A1g,List.length_map,List.length_range];unfold lim sm at *;omega,?_⟩;(try refine ev ?_);apply z;clear z K;try simp only [A0c,A0e])
  refine u2 _ _ ?_;clear u2 K2;refine lT q1E ?_;refine⟨(),trivial,sS,?_⟩;simp [ble,A0h]
theorem B1w (s:Sig)(h:s.Sm):A0a prog 95 [siV s] (siV s.canon):=(E5m s h).pubAll rfl rfl
theorem D6d {n j:Nat} (h:j < n):(tyR (A1g n))[j]? = some (tyC (B8p j)):=by simp [A1g,A1o,List.getElem?_range h]
abbrev q2E:List Nat:=[0,1,2,3,4,5,6,7,12,31,48,900,901]
theorem E5u (s:Sig)(h:s.Sm):A1p prog 163 [siV s] [] (.agg (cgC s)) [(900,.rows 5 (foR (C9y s s.formals.length))),(901,.rows 5 (paR (C9f s s.params.length)))]:=by
 have hl1:=h.formals.1;have hl2:=h.params.1;have hsub:=B9g (A0d s.formals) (A1g s.formals.length) (B7c _ hl1) s h;rw [sgB,← D0z,← D3v] at hsub;refine bB func163 ?_;refine sR q2E ?_;refine sR q2E ?_;refine AWp.pp 3 3 3 rfl ?_;refine kR q2E fun K1 u1=>?_;refine AWp.bb (AWp.ii s.formals (X:=Unit) (fun j _=>[(1,.box 1 0),(2,.box 2 0),(3,.acc 3),(4,A0g j)])
  (fun j _=>[(1,.cells (siL s)),(2,.cells si0),(3,.rows 3 (tyR (A1g j)))])
  (fun j _=>True) () trivial sS (by simp [ble,A0h,A1g,A1o]) ?_ ?_)
 ·intro _ _;refine kR1 Int.lt_irrefl q2E fun K2 u2=>?_;refine AWp.ss rfl ?_;simp only [TB];refine u1 _ _ ?_;clear u2 K2 u1 K1;refine AWp.publish 3 rfl ?_;refine AWp.ww (sl':=[(1,.box 1 0),(2,.box 2 0),(3,A3s (A1g s.formals.length))]) (bx':=[(1,.cells (siL s)),(2,.cells si0)])
   (by simp [B1e,SV.sub,sle,vle,A0k]) (by simp [A9n,BoxC.sub,SV.subL,SV.sub,ble,A0h,A0o]) ?_
  (refine sG q2E [800026] 7 [⟨[],[],[5],[5]⟩,⟨[],[],[5],[5]⟩,⟨[],[],[5],[5]⟩,⟨[],[],[5],[5]⟩,⟨[],[],[5],[5]⟩,⟨[900,901],[900,901],[5],[5]⟩,⟨[5],[5],[900,901],[900,901]⟩] fun K z=>?_;refine ev ?_;refine cc (A1u s.formals hl1) ?_;refine⟨_,_,_,C1c 900 901 rfl rfl hsub rfl (by decide) (by decide) (by decide) (by decide) rfl rfl,?_⟩;(try simp -implicitDefEqProofs only [EV,Nat.reduceAdd,Nat.reduceEqDiff,Nat.reduceBEq,Nat.reduceLeDiff,reduceCtorEq,B6e,SV.ren,SV.renL,two]);apply z;clear z K)
  refine AWp.ww (sl':=[(2,.box 2 0),(3,A3s (A1g s.formals.length)),(5,.box 5 0)]) (bx':=[(2,.cells si0),(5,.cells (cgC s)),(900,.rows 5 (foR (C9y s 0))),(901,.rows 5 (paR (C9f s 0)))])
   sS sB ?_
  refine kR q2E fun K1 u1=>?_;refine AWp.bb (AWp.ii s.formals (X:=Unit) (fun j _=>[(2,.box 2 0),(3,A3s (A1g s.formals.length)),(5,.box 5 0),(6,A0g j)])
   (fun j _=>[(2,.cells si0),(5,.cells (cgC s)),(900,.rows 5 (foR (C9y s j))),(901,.rows 5 (paR (C9f s 0)))])
   (fun j _=>True) () trivial sS sB ?_ ?_)
  ·intro _ _;refine sK fun K2 u2=>?_
   (refine sQ q2E fun K z=>?_;simp -implicitDefEqProofs only [EV,Nat.reduceEqDiff,reduceCtorEq,C3x,B6e,A5b,Int.lt_irrefl];apply z;clear z K)
   refine AWp.ss rfl ?_;simp only [TB];refine u1 _ _ ?_;clear u2 K2 u1 K1;refine kR q2E fun K1 u1=>?_;refine AWp.bb (AWp.ii s.params (X:=Unit) (fun j _=>[(2,.box 2 0),(5,.box 5 0),(7,A0g j)])
    (fun j _=>[(2,.cells si0),(5,.cells (cgC s)),(900,.rows 5 (foR (C9y s s.formals.length))),(901,.rows 5 (paR (C9f s j)))])
    (fun j _=>True) () trivial sS sB ?_ ?_)
   ·intro _ _;refine sK fun K2 u2=>?_
    (refine sQ q2E fun K z=>?_;simp -implicitDefEqProofs only [EV,Nat.reduceEqDiff,reduceCtorEq,C4a,B6e,A4m,Int.lt_irrefl];apply z;clear z K)
    refine AWp.ss rfl ?_;simp only [TB];refine u1 _ _ ?_;refine sR q2E ?_;exact AWp.ret ⟨_,by rw [results163];rfl,.inl rfl,by simp [ble,A0h]⟩
   ·intro j _ d hd hmem dp tk hlt _;refine sK fun K2 u2=>?_
    (refine sQ q2E fun K z=>?_;simp -implicitDefEqProofs only [EV,Nat.reduceEqDiff,reduceCtorEq,C4a,B6e,A4m,hlt];apply z;clear z K)
    refine gI u2 ?_;clear u2 K2;refine sK fun K2 u2=>?_;refine AWp.bb ?_
    (refine lV q2E fun K z=>?_;refine⟨by omega,by rw [A4m];omega,?_⟩;(try refine ev ?_);refine⟨_,[D.str []],B6p j hd,rfl,by simp [paC],?_⟩;(try refine ev ?_);apply z;clear z K;try simp only [A0c,A0e])
    refine u2 _ _ ?_;clear u2 K2;refine lT q2E ?_;exact⟨(),trivial,sS,by simp [ble,A0h,← E1c hd,paC]⟩
  ·intro j _ d hd hmem dp tk hlt _;refine sK fun K2 u2=>?_
   (refine sQ q2E fun K z=>?_;simp -implicitDefEqProofs only [EV,Nat.reduceEqDiff,reduceCtorEq,C3x,B6e,A5b,hlt];apply z;clear z K)
   refine gI u2 ?_;clear u2 K2;refine sK fun K2 u2=>?_;refine AWp.bb ?_
   (refine lG q2E [] 8 [] fun K z=>?_;refine ev ?_;refine⟨by omega,_,D6d (by omega),rfl,?_⟩;(try refine ev ?_);refine⟨by omega,by rw [A5b];omega,?_⟩;(try refine ev ?_);refine⟨_,[D.str (A1x j)],B5o j hd,rfl,by simp [foC],?_⟩;(try refine ev ?_);apply z;clear z K;try simp only [A0c,A0e])
   refine u2 _ _ ?_;clear u2 K2;refine lT q2E ?_;exact⟨(),trivial,sS,by simp [ble,A0h,← D9a hd,foC]⟩
 ·intro j _ d hd hmem dp tk hlt _;rw [B8x];refine kR1 hlt q2E fun K2 u2=>?_;refine gI u2 ?_;clear u2 K2;refine sK fun K2 u2=>?_;refine AWp.bb ?_
  (refine lV q2E fun K z=>?_;refine cc (D4m j (by omega)) ?_;refine⟨by simp,by simp only [A1g,List.length_map,List.length_range];unfold lim sm at *;omega,?_⟩;(try refine ev ?_);apply z;clear z K;try simp only [A0c,A0e])
  refine u2 _ _ ?_;clear u2 K2;refine lT q2E ?_;exact⟨(),trivial,sS,by simp [ble,A0h]⟩
theorem B2a (s:Sig)(h:s.Sm):A0a prog 163 [siV s] (siV s.canon):=(E5u s h).pubAll rfl rfl
end Go.Abs
