/- bind.Canon, castingsref10.Canon -/
import Derived.Test.YtaneedhchnaniaaGreatDoorKS12
import Derived.Test.YtaneedhchnaniaaGreatDoorKS13
namespace Go.Abs
set_option linter.all false
open Go Go.Proofs Tryz
set_option maxRecDepth 100000
set_option maxHeartbeats 1000000
def Tz (i:Nat):Ty:=.mk (Ec i) [] 0
def Da (n:Nat):List Ty:=(List.range n).map Tz
theorem D4g (j:Nat):Aq (Da (j+1))=Aq (Da j)++[[D.str (Ec j),.slice [],.int .i64 0]]:=by simp only [Da,List.range_succ,Fz,Cc,Cz,Hr,Tz,Bh,Ty.name,Ty.args,Ty.pos]
theorem E9e (i:Nat)(h:i≤sm):(Tz i).Sm:=.mk _ _ _ (Dk (D2j i h) (by decide)) (by simp) (by simp)
theorem C1j (n:Nat)(h:n≤sm):∀u,u∈Da n→u.Sm:=fun u E=>by obtain⟨i,I,rfl⟩:=Ax.1 E;exact E9e i (by have:=Xs.1 I;omega)
def Ad (l:List Ak):List A3:=l.map (·.name)
def Ha (s:A5)(j:Nat):List Ak:=s.A1.mapIdx fun i f=>⟨if i < j then Ec i else f.name,f.bound.subst (Ad s.A1) (Da s.A1.length),f.pos⟩
def Je (s:A5)(j:Nat):List Param:=s.params.mapIdx fun i p=>⟨if i < j then [] else p.name,p.type.subst (Ad s.A1) (Da s.A1.length),p.pos⟩
def A5.canon (s:A5):A5:=⟨s.name,Ha s s.A1.length,Je s s.params.length,s.result.subst (Ad s.A1) (Da s.A1.length),s.pos⟩
theorem Xr (s:A5)(j:Nat):(Ha s j).length=s.A1.length:=by simp [Ha]
theorem Xb (s:A5)(j:Nat):(Je s j).length=s.params.length:=by simp [Je]
theorem C7x (s:A5):Ha s 0=s.A1.map (Ak.subst (Ad s.A1) (Da s.A1.length)):=by refine Lu fun i=>?_;simp only [Ha,Um,D3,Nat.not_lt_zero,Et];rfl
theorem D5w (s:A5):Je s 0=s.params.map (Param.subst (Ad s.A1) (Da s.A1.length)):=by refine Lu fun i=>?_;simp only [Je,Um,D3,Nat.not_lt_zero,Et];rfl
theorem B1b {s:A5} {j:Nat} {d:Ak} (i:Nat)(h:s.A1[j]? = some d):(Az (Ha s i))[j]? = some (Ke ⟨if j < i then Ec j else d.name,d.bound.subst (Ad s.A1) (Da s.A1.length),d.pos⟩):=by simp only [Az,Ha,D3,Um,h,E8]
theorem B1c {s:A5} {j:Nat} {d:Param} (i:Nat)(h:s.params[j]? = some d):(B5 (Je s i))[j]? = some (Gc ⟨if j < i then [] else d.name,d.type.subst (Ad s.A1) (Da s.A1.length),d.pos⟩):=by simp only [B5,Je,D3,Um,h,E8]
theorem D3x {s:A5} {j:Nat} {d:Ak} (h:s.A1[j]? = some d):(Az (Ha s j)).set j (Ke ⟨Ec j,d.bound.subst (Ad s.A1) (Da s.A1.length),d.pos⟩)=Az (Ha s (j+1)):=by
 refine Lu fun i=>?_;rw [Am6];split
 ·rename_i E;subst E;rw [A8 (by rw [Az,B6,Xr];exact (Ay.1 h).1),B1b _ h,A8 (by omega)]
 ·rename_i E;cases I:s.A1[i]? with
  |none=>simp [Az,Ha,I]
  |some e =>
   rw [B1b _ I,B1b _ I];by_cases J:i < j
   ·rw [A8 J,A8 (by omega)]
   ·rw [A6 J,A6 (by omega)]
theorem E2v {s:A5} {j:Nat} {d:Param} (h:s.params[j]? = some d):(B5 (Je s j)).set j (Gc ⟨[],d.type.subst (Ad s.A1) (Da s.A1.length),d.pos⟩)=B5 (Je s (j+1)):=by
 refine Lu fun i=>?_;rw [Am6];split
 ·rename_i E;subst E;rw [A8 (by rw [B5,B6,Xb];exact (Ay.1 h).1),B1c _ h,A8 (by omega)]
 ·rename_i E;cases I:s.params[i]? with
  |none=>simp [B5,Je,I]
  |some e =>
   rw [B1c _ I,B1c _ I];by_cases J:i < j
   ·rw [A8 J,A8 (by omega)]
   ·rw [A6 J,A6 (by omega)]
abbrev cgC (s:A5):List SV:=sgC s (Ad s.A1) (Da s.A1.length) (.acc 900) (.acc 901)
abbrev Kf:List Nat:=[0,1,2,3,4,5,6,7,10,11,12,29,30,31,43,44,45,900,901]
theorem F9p (s:A5)(h:s.Sm):Cd prog 132 [Cx s] [] (.agg (cgC s)) [(900,.rows 5 (Az (Ha s s.A1.length))),(901,.rows 5 (B5 (Je s s.params.length)))]:=by
 have O:=h.A1.1;have W:=h.params.1;have J:=E3a (Ad s.A1) (Da s.A1.length) (C1j _ O) s h;rw [sgB,←C7x,←D5w] at J;refine bB func132 ?_;refine sR Kf ?_;refine sR Kf ?_;refine A0.pp 3 3 3 rfl ?_;refine kR Kf fun R u1=>?_;refine A0.bb (A0.ii s.A1 (X:=Unit) (fun j _=>[(1,.box 1 0),(2,.box 2 0),(3,.acc 3),(10,A9 s.A1.length),(11,A9 j)])
  (fun j _=>[(1,.cells (Nd s)),(2,.cells Pn),(3,.rows 3 (Aq (Da j)))])
  (fun j _=>True) () trivial sS (by simp [ble,A7,Da,Cc]) ?_ ?_)
 ·intro _ _;refine Ah B4 Kf ?_;refine A0.stop rfl ?_;simp only [A4,Aa,Af];refine u1 _ _ ?_;clear u1 R;refine A0.Kx 3 rfl ?_;refine A0.ww (sl':=[(1,.box 1 0),(2,.box 2 0),(3,Cg (Da s.A1.length))]) (bx':=[(1,.cells (Nd s)),(2,.cells Pn)])
   (by simp [Ky,SV.sub,sle,Aw,Ae]) (by simp [Jg,Ar.sub,SV.Kq,SV.sub,ble,A7,C3]) ?_
  (refine sG Kf [800026] 7 [⟨[],[],[5],[5]⟩,⟨[],[],[5],[5]⟩,⟨[],[],[5],[5]⟩,⟨[],[],[5],[5]⟩,⟨[],[],[5],[5]⟩,⟨[900,901],[900,901],[5],[5]⟩,⟨[5],[5],[900,901],[900,901]⟩] fun K z=>?_;refine ev ?_;refine cc (A9z s.A1 O) ?_;refine⟨_,_,_,C4z 900 901 rfl rfl J rfl (by decide) (by decide) (by decide) (by decide) rfl rfl,?_⟩;(try simp -implicitDefEqProofs only [EV,Nat.reduceAdd,Nat.reduceEqDiff,Nat.reduceBEq,Nat.reduceLeDiff,reduceCtorEq,S4,SV.Eg,SV.Ns,two]);apply z;clear z K)
  refine A0.ww (sl':=[(2,.box 2 0),(5,.box 5 0)]) (bx':=[(2,.cells Pn),(5,.cells (cgC s)),(900,.rows 5 (Az (Ha s 0))),(901,.rows 5 (B5 (Je s 0)))])
   sS sB ?_
  refine kR Kf fun R u1=>?_;refine A0.bb (A0.ii s.A1 (X:=Unit) (fun j _=>[(2,.box 2 0),(5,.box 5 0),(29,A9 s.A1.length),(30,A9 j)])
   (fun j _=>[(2,.cells Pn),(5,.cells (cgC s)),(900,.rows 5 (Az (Ha s j))),(901,.rows 5 (B5 (Je s 0)))])
   (fun j _=>True) () trivial (by simp [sle,Aw,Ae,Xr]) sB ?_ ?_)
  ·intro _ _;refine Ah B4 Kf ?_;refine A0.stop rfl ?_;simp only [A4,Aa,Af];refine u1 _ _ ?_;clear u1 R;refine kR Kf fun R u1=>?_;refine A0.bb (A0.ii s.params (X:=Unit) (fun j _=>[(2,.box 2 0),(5,.box 5 0),(43,A9 s.params.length),(44,A9 j)])
    (fun j _=>[(2,.cells Pn),(5,.cells (cgC s)),(900,.rows 5 (Az (Ha s s.A1.length))),(901,.rows 5 (B5 (Je s j)))])
    (fun j _=>True) () trivial (by simp [sle,Aw,Ae,Xb]) sB ?_ ?_)
   ·intro _ _;refine Ah B4 Kf ?_;refine A0.stop rfl ?_;simp only [A4,Aa,Af];refine u1 _ _ ?_;refine sR Kf ?_;exact A0.ret ⟨_,by rw [results132];rfl,.inl rfl,by simp [ble,A7]⟩
   ·intro j _ d hd I V U E _;refine Ah E Kf ?_;refine A0.E5 rfl ?_;refine sK fun L u2=>?_;refine A0.bb ?_;refine sR Kf ?_
    (refine lV Kf fun K z=>?_;refine⟨by omega,by rw [Xb];omega,?_⟩;(try refine ev ?_);refine⟨_,[D.str []],B1c j hd,rfl,by simp [Gc],?_⟩;(try refine ev ?_);apply z;clear z K;try simp only [A4,Aa])
    refine u2 _ _ ?_;clear u2 L;refine lT Kf ?_;exact⟨(),trivial,sS,by simp [ble,A7,←E2v hd,Gc]⟩
  ·intro j _ d hd I V U E _;refine Ah E Kf ?_;refine A0.E5 rfl ?_;refine sK fun L u2=>?_;refine A0.bb ?_;refine sR Kf ?_
   (refine lG Kf [] 5 [] fun K z=>?_;refine ev ?_;refine cc (C5s j (by omega)) ?_;refine⟨by omega,by rw [Xr];omega,?_⟩;(try refine ev ?_);refine⟨_,[D.str (Ec j)],B1b j hd,rfl,by simp [Ke],?_⟩;(try refine ev ?_);apply z;clear z K;try simp only [A4,Aa])
   refine u2 _ _ ?_;clear u2 L;refine lT Kf ?_;exact⟨(),trivial,sS,by simp [ble,A7,←D3x hd,Ke]⟩
 ·intro j _ d hd I V U E _;rw [D4g];refine Ah E Kf ?_;refine A0.E5 rfl ?_;refine sK fun L u2=>?_;refine A0.bb ?_;refine sR Kf ?_
  (refine lV Kf fun K z=>?_;refine cc (C5s j (by omega)) ?_;refine⟨by simp,by simp only [Da,B6,List.length_range];unfold lim sm at *;omega,?_⟩;(try refine ev ?_);apply z;clear z K;try simp only [A4,Aa])
  refine u2 _ _ ?_;clear u2 L;refine lT Kf ?_;refine⟨(),trivial,sS,?_⟩;simp [ble,A7]
theorem B1a (s:A5)(h:s.Sm):Ac prog 132 [Cx s] (Cx s.canon):=(F9p s h).B3t rfl rfl
theorem G4d {n j:Nat} (h:j < n):(Aq (Da n))[j]? = some (Bh (Tz j)):=by simp [Da,Cc,Ww h]
abbrev M0:List Nat:=[0,1,2,3,4,5,6,7,12,31,48,900,901]
theorem G2f (s:A5)(h:s.Sm):Cd prog 286 [Cx s] [] (.agg (cgC s)) [(900,.rows 5 (Az (Ha s s.A1.length))),(901,.rows 5 (B5 (Je s s.params.length)))]:=by
 have O:=h.A1.1;have W:=h.params.1;have L:=D8c (Ad s.A1) (Da s.A1.length) (C1j _ O) s h;rw [sgB,←C7x,←D5w] at L;refine bB func286 ?_;refine sR M0 ?_;refine sR M0 ?_;refine A0.pp 3 3 3 rfl ?_;refine kR M0 fun R u1=>?_;refine A0.bb (A0.ii s.A1 (X:=Unit) (fun j _=>[(1,.box 1 0),(2,.box 2 0),(3,.acc 3),(4,A9 j)])
  (fun j _=>[(1,.cells (Nd s)),(2,.cells Pn),(3,.rows 3 (Aq (Da j)))])
  (fun j _=>True) () trivial sS (by simp [ble,A7,Da,Cc]) ?_ ?_)
 ·intro _ _;refine Ai B4 M0 fun E u2=>?_;refine A0.ss rfl ?_;simp only [A4,Aa,Af];refine u1 _ _ ?_;clear u2 E u1 R;refine A0.Kx 3 rfl ?_;refine A0.ww (sl':=[(1,.box 1 0),(2,.box 2 0),(3,Cg (Da s.A1.length))]) (bx':=[(1,.cells (Nd s)),(2,.cells Pn)])
   (by simp [Ky,SV.sub,sle,Aw,Ae]) (by simp [Jg,Ar.sub,SV.Kq,SV.sub,ble,A7,C3]) ?_
  (refine sG M0 [800026] 7 [⟨[],[],[5],[5]⟩,⟨[],[],[5],[5]⟩,⟨[],[],[5],[5]⟩,⟨[],[],[5],[5]⟩,⟨[],[],[5],[5]⟩,⟨[900,901],[900,901],[5],[5]⟩,⟨[5],[5],[900,901],[900,901]⟩] fun K z=>?_;refine ev ?_;refine cc (To s.A1 O) ?_;refine⟨_,_,_,C4z 900 901 rfl rfl L rfl (by decide) (by decide) (by decide) (by decide) rfl rfl,?_⟩;(try simp -implicitDefEqProofs only [EV,Nat.reduceAdd,Nat.reduceEqDiff,Nat.reduceBEq,Nat.reduceLeDiff,reduceCtorEq,S4,SV.Eg,SV.Ns,two]);apply z;clear z K)
  refine A0.ww (sl':=[(2,.box 2 0),(3,Cg (Da s.A1.length)),(5,.box 5 0)]) (bx':=[(2,.cells Pn),(5,.cells (cgC s)),(900,.rows 5 (Az (Ha s 0))),(901,.rows 5 (B5 (Je s 0)))])
   sS sB ?_
  refine kR M0 fun R u1=>?_;refine A0.bb (A0.ii s.A1 (X:=Unit) (fun j _=>[(2,.box 2 0),(3,Cg (Da s.A1.length)),(5,.box 5 0),(6,A9 j)])
   (fun j _=>[(2,.cells Pn),(5,.cells (cgC s)),(900,.rows 5 (Az (Ha s j))),(901,.rows 5 (B5 (Je s 0)))])
   (fun j _=>True) () trivial sS sB ?_ ?_)
  ·intro _ _;refine sK fun E u2=>?_
   (refine sQ M0 fun K z=>?_;simp -implicitDefEqProofs only [EV,Nat.reduceEqDiff,reduceCtorEq,A4e,S4,Xr,B4];apply z;clear z K)
   refine A0.ss rfl ?_;simp only [A4,Aa,Af];refine u1 _ _ ?_;clear u2 E u1 R;refine kR M0 fun R u1=>?_;refine A0.bb (A0.ii s.params (X:=Unit) (fun j _=>[(2,.box 2 0),(5,.box 5 0),(7,A9 j)])
    (fun j _=>[(2,.cells Pn),(5,.cells (cgC s)),(900,.rows 5 (Az (Ha s s.A1.length))),(901,.rows 5 (B5 (Je s j)))])
    (fun j _=>True) () trivial sS sB ?_ ?_)
   ·intro _ _;refine sK fun E u2=>?_
    (refine sQ M0 fun K z=>?_;simp -implicitDefEqProofs only [EV,Nat.reduceEqDiff,reduceCtorEq,Uv,S4,Xb,B4];apply z;clear z K)
    refine A0.ss rfl ?_;simp only [A4,Aa,Af];refine u1 _ _ ?_;refine sR M0 ?_;exact A0.ret ⟨_,by rw [results286];rfl,.inl rfl,by simp [ble,A7]⟩
   ·intro j _ d hd J V U I _;refine sK fun E u2=>?_
    (refine sQ M0 fun K z=>?_;simp -implicitDefEqProofs only [EV,Nat.reduceEqDiff,reduceCtorEq,Uv,S4,Xb,I];apply z;clear z K)
    refine gI u2 ?_;clear u2 E;refine sK fun E u2=>?_;refine A0.bb ?_
    (refine lV M0 fun K z=>?_;refine⟨by omega,by rw [Xb];omega,?_⟩;(try refine ev ?_);refine⟨_,[D.str []],B1c j hd,rfl,by simp [Gc],?_⟩;(try refine ev ?_);apply z;clear z K;try simp only [A4,Aa])
    refine u2 _ _ ?_;clear u2 E;refine lT M0 ?_;exact⟨(),trivial,sS,by simp [ble,A7,←E2v hd,Gc]⟩
  ·intro j _ d hd J V U I _;refine sK fun E u2=>?_
   (refine sQ M0 fun K z=>?_;simp -implicitDefEqProofs only [EV,Nat.reduceEqDiff,reduceCtorEq,A4e,S4,Xr,I];apply z;clear z K)
   refine gI u2 ?_;clear u2 E;refine sK fun E u2=>?_;refine A0.bb ?_
   (refine lG M0 [] 8 [] fun K z=>?_;refine ev ?_;refine⟨by omega,_,G4d (by omega),rfl,?_⟩;(try refine ev ?_);refine⟨by omega,by rw [Xr];omega,?_⟩;(try refine ev ?_);refine⟨_,[D.str (Ec j)],B1b j hd,rfl,by simp [Ke],?_⟩;(try refine ev ?_);apply z;clear z K;try simp only [A4,Aa])
   refine u2 _ _ ?_;clear u2 E;refine lT M0 ?_;exact⟨(),trivial,sS,by simp [ble,A7,←D3x hd,Ke]⟩
 ·intro j _ d hd J V U I _;rw [D4g];refine Ai I M0 fun E u2=>?_;refine gI u2 ?_;clear u2 E;refine sK fun E u2=>?_;refine A0.bb ?_
  (refine lV M0 fun K z=>?_;refine cc (F7o j (by omega)) ?_;refine⟨by simp,by simp only [Da,B6,List.length_range];unfold lim sm at *;omega,?_⟩;(try refine ev ?_);apply z;clear z K;try simp only [A4,Aa])
  refine u2 _ _ ?_;clear u2 E;refine lT M0 ?_;exact⟨(),trivial,sS,by simp [ble,A7]⟩
theorem B5i (s:A5)(h:s.Sm):Ac prog 286 [Cx s] (Cx s.canon):=(G2f s h).B3t rfl rfl
end Go.Abs
