/- table.instance -/
import Derived.Test.YtaneedhchnaniaaGreatDoorKS49
import Derived.Test.YtaneedhchnaniaaGreatDoorKAb7
namespace Go.Abs
set_option linter.all false
open Go Go.Proofs Tryz
set_option maxRecDepth 100000
set_option maxHeartbeats 1000000
theorem E2i {p:Prog} {E:A3} (h:Gb p E=none):kindOf p E=0∧Fj p E=[]:=by unfold Gb at h;simp [kindOf,Fj,Gb,h]
theorem D8r {p:Prog} {E:A3} {d:Decl} (h:Gb p E=some d):kindOf p E=d.kind∧Fj p E=d.A1:=by have I:=h;unfold Gb at h;simp [kindOf,Fj,Gb,h]
abbrev q1F:List Nat:=[0,1,2,4,6,7,8,9]
theorem B8h (p:Prog)(h:p.Sm)(x:Ty)(k:Int)(V:k≠0):Ac prog 188 [.Ag (Fu p) 0,Be x,A9 k] (.tuple [Iy ((Gb p x.name).getD default),B0 (Bz p x k)]):=by
 have J:=D6g p h x.name [];rw [F6a] at J;rw [show (p.decls.find? fun d=>d.Iu x.name)=Gb p x.name from rfl] at J;have O:=@E2i p x.name;have R:=@D8r p x.name;unfold Bz;generalize Gb p x.name=o at *;refine cB func188 ?_;refine sR q1F ?_;refine sC J q1F ?_;cases o with
 |none =>
  rw [(O rfl).1];simp only [Option.isSome,Mj]
  (refine sG q1F [] 18 [⟨[],[],[],[]⟩,⟨[],[],[],[]⟩,⟨[],[],[],[]⟩,⟨[],[],[],[]⟩,⟨[],[],[],[]⟩,⟨[],[],[],[]⟩,⟨[],[],[],[]⟩,⟨[],[],[],[]⟩,⟨[],[],[],[]⟩,⟨[],[],[6],[]⟩,⟨[],[],[6],[]⟩,⟨[],[],[6],[]⟩,⟨[],[],[6],[]⟩,⟨[],[],[6],[]⟩,⟨[],[],[6],[]⟩,⟨[],[],[6],[]⟩,⟨[],[],[6],[]⟩,⟨[6],[],[],[]⟩] fun K z=>?_;refine ev ?_;apply z;clear z K)
  rw [show decide ((0:Int)=k)=false by simpa using V.symm,Bv];exact aR
 |some d =>
  obtain⟨U,W⟩:=R rfl;rw [U,W];simp only [Option.isSome,Dc];by_cases I:d.kind=k
  ·subst I;by_cases L:d.A1.length=x.args.length
   ·have E:(d.A1.length:Int)=x.args.length:=by omega
    (refine sG q1F [] 18 [⟨[],[],[],[]⟩,⟨[],[],[],[]⟩,⟨[],[],[],[]⟩,⟨[],[],[],[]⟩,⟨[],[],[],[]⟩,⟨[],[],[],[]⟩,⟨[],[],[],[]⟩,⟨[],[],[],[]⟩,⟨[],[],[],[]⟩,⟨[],[],[6],[]⟩,⟨[],[],[6],[]⟩,⟨[],[],[6],[]⟩,⟨[],[],[6],[]⟩,⟨[],[],[6],[]⟩,⟨[],[],[6],[]⟩,⟨[],[],[6],[]⟩,⟨[],[],[6],[]⟩,⟨[6],[],[],[]⟩] fun K z=>?_;refine An E ?_;apply z;clear z K)
    rw [Bn L,Bn rfl];exact aR
   ·have E:¬(d.A1.length:Int)=x.args.length:=by omega
    (refine sG q1F [] 18 [⟨[],[],[],[]⟩,⟨[],[],[],[]⟩,⟨[],[],[],[]⟩,⟨[],[],[],[]⟩,⟨[],[],[],[]⟩,⟨[],[],[],[]⟩,⟨[],[],[],[]⟩,⟨[],[],[],[]⟩,⟨[],[],[],[]⟩,⟨[],[],[6],[]⟩,⟨[],[],[6],[]⟩,⟨[],[],[6],[]⟩,⟨[],[],[6],[]⟩,⟨[],[],[6],[]⟩,⟨[],[],[6],[]⟩,⟨[],[],[6],[]⟩,⟨[],[],[6],[]⟩,⟨[6],[],[],[]⟩] fun K z=>?_;refine An E ?_;apply z;clear z K)
    rw [Ci L,Vi];exact aR
  ·(refine sG q1F [] 18 [⟨[],[],[],[]⟩,⟨[],[],[],[]⟩,⟨[],[],[],[]⟩,⟨[],[],[],[]⟩,⟨[],[],[],[]⟩,⟨[],[],[],[]⟩,⟨[],[],[],[]⟩,⟨[],[],[],[]⟩,⟨[],[],[],[]⟩,⟨[],[],[6],[]⟩,⟨[],[],[6],[]⟩,⟨[],[],[6],[]⟩,⟨[],[],[6],[]⟩,⟨[],[],[6],[]⟩,⟨[],[],[6],[]⟩,⟨[],[],[6],[]⟩,⟨[],[],[6],[]⟩,⟨[6],[],[],[]⟩] fun K z=>?_;refine An I ?_;apply z;clear z K)
   rw [Ci I,Bv];exact aR
def Ak.subst (vars:List A3)(args:List Ty)(f:Ak):Ak:=⟨f.name,f.bound.subst vars args,f.pos⟩
def Param.subst (vars:List A3)(args:List Ty)(f:Param):Param:=⟨f.name,f.type.subst vars args,f.pos⟩
def A5.subst (vars:List A3)(args:List Ty)(s:A5):A5:=⟨s.name,s.A1.map (Ak.subst vars args),s.params.map (Param.subst vars args),s.result.subst vars args,s.pos⟩
theorem F3j (vars:List A3)(args:List Ty)(E:∀u,u∈args→u.Sm)(t:Ty)(h:t.Sm) :
  Ac prog 274 [Be t,.Ag [.slice (C6 vars)] 0,.Ag [.slice (Aq args)] 0] (Be (t.subst vars args)):=by
 refine cB func274 ?_;refine sR [0,1,2,3,4] ?_;refine sC (B1m vars args E t h) [0,1,2,3,4] ?_;exact aR
abbrev Nd (s:A5):List SV:=[.d (.str s.name),.d (.slice (Az s.A1)),.d (.slice (B5 s.params)),.d (.str s.result.name),.d (.slice (Aq s.result.args)),.d (.int .i64 s.result.pos),.d (.int .i64 s.pos)]
abbrev Pn:List SV:=[.d (.str []),.d .nil,.d .nil,.d (.str []),.d .nil,.d (.int .i64 0),.d (.int .i64 0)]
abbrev B3x (vars:List A3)(args:List Ty):List SV:=[.Ag [.slice (C6 vars)] 0,.Ag [.slice (Aq args)] 0]
abbrev sgC (s:A5)(vars:List A3)(args:List Ty)(x y:SV):List SV:=[.d (.str s.name),x,y,.d (.str (s.result.subst vars args).name),.d (.slice (Aq (s.result.subst vars args).args)),.d (.int .i64 (s.result.subst vars args).pos),A9 s.pos]
abbrev sgO (s:A5)(vars:List A3)(args:List Ty):SV:=.agg (sgC s vars args (.acc 900) (.acc 901))
abbrev sgB (s:A5)(vars:List A3)(args:List Ty):Ab:=[(900,.rows 5 (Az (s.A1.map (Ak.subst vars args)))),(901,.rows 5 (B5 (s.params.map (Param.subst vars args))))]
theorem D7n (l:List Ak)(vars:List A3)(args:List Ty)(j:Nat)(d:Ak):Az ((l.take j++[d]).map (Ak.subst vars args))=Az ((l.take j).map (Ak.subst vars args))++[Ke (d.subst vars args)]:=by simp [Az]
theorem D6p (l:List Param)(vars:List A3)(args:List Ty)(j:Nat)(d:Param):B5 ((l.take j++[d]).map (Param.subst vars args))=B5 ((l.take j).map (Param.subst vars args))++[Gc (d.subst vars args)]:=by simp [B5]
abbrev Qs:List Nat:=[0,1,2,4,5,7,9,20,21,22,23,42,43,44,45,900,901]
theorem F5y (vars:List A3)(args:List Ty)(U:∀u,u∈args→u.Sm)(s:A5)(h:s.Sm):Cd prog 273 [Cx s,.Bf 274 (B3x vars args)] [] (sgO s vars args) (sgB s vars args):=by
 have L:∀t:Ty,t.Sm→Ac prog 274 (Be t::B3x vars args) (Be (t.subst vars args)):=fun t ht=>F3j vars args U t ht;have Z:=h.A1.1;have V:=h.params.1;refine bB func273 ?_;refine sR Qs ?_
 (refine sG Qs [] 10 [⟨[],[],[5],[5]⟩,⟨[],[],[5],[5]⟩,⟨[],[],[5],[5]⟩,⟨[],[],[5],[5]⟩,⟨[],[],[5],[5]⟩,⟨[],[],[5],[5]⟩,⟨[],[],[5],[5]⟩,⟨[],[],[5],[5]⟩,⟨[],[],[5],[5]⟩,⟨[5],[5],[],[]⟩] fun K z=>?_;refine ev ?_;refine cc (L s.result h.result) ?_;apply z;clear z K)
 refine A0.No 900 5 5 1 rfl rfl (by decide) ?_;refine kR Qs fun R u1=>?_;refine A0.bb (A0.ii s.A1 (X:=Unit) (fun j _=>[(1,.Bf 274 (B3x vars args)),(2,.box 2 0),(4,.box 4 0),(5,.box 5 0),(20,.d (.slice (Az s.A1))),(21,A9 s.A1.length),(22,A9 j)])
  (fun j _=>[(2,.cells (Nd s)),(4,.cells Pn),(5,.cells (sgC s vars args (.acc 900) (.d .nil))),(900,.rows 5 (Az ((s.A1.take j).map (Ak.subst vars args))))])
  (fun j _=>True) () trivial sS (by simp [ble,A7,Az]) ?_ ?_)
 ·intro _ _;rw [Cs];refine Ah B4 Qs ?_;refine A0.stop rfl ?_;simp only [A4,Aa,Af];refine u1 _ _ ?_;clear u1 R;refine A0.No 901 5 5 2 rfl rfl (by decide) ?_;refine kR Qs fun R u1=>?_;refine A0.bb (A0.ii s.params (X:=Unit) (fun j _=>[(1,.Bf 274 (B3x vars args)),(2,.box 2 0),(4,.box 4 0),(5,.box 5 0),(42,.d (.slice (B5 s.params))),(43,A9 s.params.length),(44,A9 j)])
   (fun j _=>[(2,.cells (Nd s)),(4,.cells Pn),(5,.cells (sgC s vars args (.acc 900) (.acc 901))),(900,.rows 5 (Az (s.A1.map (Ak.subst vars args)))),(901,.rows 5 (B5 ((s.params.take j).map (Param.subst vars args))))])
   (fun j _=>True) () trivial sS (by simp [ble,A7,B5]) ?_ ?_)
  ·intro _ _;rw [Cs];refine Ah B4 Qs ?_;refine A0.stop rfl ?_;simp only [A4,Aa,Af];refine u1 _ _ ?_;refine sR Qs ?_;exact A0.ret ⟨_,by rw [results273];rfl,.inl rfl,by simp [ble,A7]⟩
  ·intro j _ d hd E W J I _;rw [J,D6p];refine Ah I Qs ?_;refine A0.E5 rfl ?_;refine sK fun O u2=>?_;refine A0.bb ?_
   (refine sV Qs fun K z=>?_;refine ci (E7 hd) ?_;apply z;clear z K)
   (refine lG Qs [] 12 [] fun K z=>?_;refine ev ?_;refine cc (L d.type (h.params.2 d E).type) ?_;refine⟨by simp,by simp only [B6,Cw];unfold lim sm at *;omega,?_⟩;(try refine ev ?_);apply z;clear z K;try simp only [A4,Aa])
   refine u2 _ _ ?_;clear u2 O;refine lT Qs ?_;exact⟨(),trivial,sS,by simp [ble,A7,Gc,Param.subst]⟩
 ·intro j _ d hd E W J I _;rw [J,D7n];refine Ah I Qs ?_;refine A0.E5 rfl ?_;refine sK fun O u2=>?_;refine A0.bb ?_
  (refine sV Qs fun K z=>?_;refine ci (Ep hd) ?_;apply z;clear z K)
  (refine lG Qs [] 12 [] fun K z=>?_;refine ev ?_;refine cc (L d.bound (h.A1.2 d E).bound) ?_;refine⟨by simp,by simp only [B6,Cw];unfold lim sm at *;omega,?_⟩;(try refine ev ?_);apply z;clear z K;try simp only [A4,Aa])
  refine u2 _ _ ?_;clear u2 O;refine lT Qs ?_;exact⟨(),trivial,sS,by simp [ble,A7,Ke,Ak.subst]⟩
theorem E3a (vars:List A3)(args:List Ty)(I:∀u,u∈args→u.Sm)(s:A5)(h:s.Sm):Cd prog 211 [Cx s,Ct vars,Cg args] [] (sgO s vars args) (sgB s vars args):=by
 have E:=F5y vars args I s h;refine bB func211 ?_;refine sR [0,1,2,3,4,5,6,900,901] ?_;refine A0.zz 4 rfl rfl ?_;refine A0.zz 5 rfl rfl ?_;refine A0.ww (sl':=[(3,.box 3 0),(4,.Ag [.slice (C6 vars)] 0),(5,.Ag [.slice (Aq args)] 0),(6,.box 6 0)]) (bx':=[(3,.cells (Nd s)),(6,.cells Pn)])
  (by simp [Ky,SV.sub,SV.Kq,sle,Aw,Ae]) (by simp [Jg,Ar.sub,SV.Kq,SV.sub,ble,A7,C3]) ?_
 (refine A0.F6 [0,1,2,3,4,5,6,900,901] [800009] (by decide +kernel) fun K z=>?_;refine ev ?_;refine⟨_,_,_,C4z 900 901 rfl rfl E rfl (by decide) (by decide) (by decide) (by decide) rfl rfl,?_⟩;simp only [SV.Eg,SV.Ns,two,Af,Nat.reduceEqDiff,Et];(try refine ev ?_);apply z;clear z K)
 exact A0.ret ⟨_,by rw [results211];rfl,.inl rfl,by simp [ble,A7]⟩
theorem C0o (vars:List A3)(args:List Ty)(E:∀u,u∈args→u.Sm)(s:A5)(h:s.Sm):Ac prog 211 [Cx s,Ct vars,Cg args] (Cx (s.subst vars args)) :=
 (E3a vars args E s h).B3t rfl rfl
abbrev Nu:List Nat:=[0,1,2,3,6,7,8,9,10,11,26,50,900,901]
theorem D8c (vars:List A3)(args:List Ty)(L:∀u,u∈args→u.Sm)(s:A5)(h:s.Sm):Cd prog 285 [Cx s,Ct vars,Cg args] [] (sgO s vars args) (sgB s vars args):=by
 have W:=h.A1.1;have U:=h.params.1;refine bB func285 ?_;refine sR Nu ?_
 (refine sG Nu [] 11 [⟨[],[],[7],[7]⟩,⟨[],[],[7],[7]⟩,⟨[],[],[7],[7]⟩,⟨[],[],[7],[7]⟩,⟨[],[],[7],[7]⟩,⟨[],[],[7],[7]⟩,⟨[],[],[7],[7]⟩,⟨[],[],[7],[7]⟩,⟨[],[],[7],[7]⟩,⟨[],[],[7],[7]⟩,⟨[7],[7],[],[]⟩] fun K z=>?_;refine ev ?_;refine cc (Ur vars args L s.result h.result) ?_;apply z;clear z K)
 refine A0.No 900 5 7 1 rfl rfl (by decide) ?_;refine kR Nu fun R u1=>?_;refine A0.bb (A0.ii s.A1 (X:=Unit) (fun j _=>[(1,Ct vars),(2,Cg args),(3,.box 3 0),(6,.box 6 0),(7,.box 7 0),(8,A9 j)])
  (fun j _=>[(3,.cells (Nd s)),(6,.cells Pn),(7,.cells (sgC s vars args (.acc 900) (.d .nil))),(900,.rows 5 (Az ((s.A1.take j).map (Ak.subst vars args))))])
  (fun j _=>True) () trivial sS (by simp [ble,A7,Az]) ?_ ?_)
 ·intro _ _;rw [Cs];refine Ai B4 Nu fun I u2=>?_;refine A0.ss rfl ?_;simp only [A4,Aa,Af];refine u1 _ _ ?_;clear u2 I u1 R;refine A0.No 901 5 7 2 rfl rfl (by decide) ?_;refine kR Nu fun R u1=>?_;refine A0.bb (A0.ii s.params (X:=Unit) (fun j _=>[(1,Ct vars),(2,Cg args),(3,.box 3 0),(6,.box 6 0),(7,.box 7 0),(10,A9 j)])
   (fun j _=>[(3,.cells (Nd s)),(6,.cells Pn),(7,.cells (sgC s vars args (.acc 900) (.acc 901))),(900,.rows 5 (Az (s.A1.map (Ak.subst vars args)))),(901,.rows 5 (B5 ((s.params.take j).map (Param.subst vars args))))])
   (fun j _=>True) () trivial sS (by simp [ble,A7,B5]) ?_ ?_)
  ·intro _ _;rw [Cs];refine Ai B4 Nu fun I u2=>?_;refine A0.ss rfl ?_;simp only [A4,Aa,Af];refine u1 _ _ ?_;refine sR Nu ?_;exact A0.ret ⟨_,by rw [results285];rfl,.inl rfl,by simp [ble,A7]⟩
  ·intro j _ d hd E V O J _;rw [O,D6p];refine Ai J Nu fun I u2=>?_;refine gI u2 ?_;clear u2 I;refine sK fun I u2=>?_;refine A0.bb ?_
   (refine sV Nu fun K z=>?_;refine ci (E7 hd) ?_;apply z;clear z K)
   refine sC (Ur vars args L d.type (h.params.2 d E).type) Nu ?_
   (refine lV Nu fun K z=>?_;refine⟨by simp,by simp only [B6,Cw];unfold lim sm at *;omega,?_⟩;(try refine ev ?_);apply z;clear z K;try simp only [A4,Aa])
   refine u2 _ _ ?_;clear u2 I;refine lT Nu ?_;exact⟨(),trivial,sS,by simp [ble,A7,Gc,Param.subst]⟩
 ·intro j _ d hd E V O J _;rw [O,D7n];refine Ai J Nu fun I u2=>?_;refine gI u2 ?_;clear u2 I;refine sK fun I u2=>?_;refine A0.bb ?_
  (refine sV Nu fun K z=>?_;refine ci (Ep hd) ?_;apply z;clear z K)
  refine sC (Ur vars args L d.bound (h.A1.2 d E).bound) Nu ?_
  (refine lV Nu fun K z=>?_;refine⟨by simp,by simp only [B6,Cw];unfold lim sm at *;omega,?_⟩;(try refine ev ?_);apply z;clear z K;try simp only [A4,Aa])
  refine u2 _ _ ?_;clear u2 I;refine lT Nu ?_;exact⟨(),trivial,sS,by simp [ble,A7,Ke,Ak.subst]⟩
theorem E1x (vars:List A3)(args:List Ty)(E:∀u,u∈args→u.Sm)(s:A5)(h:s.Sm):Ac prog 285 [Cx s,Ct vars,Cg args] (Cx (s.subst vars args)) :=
 (D8c vars args E s h).B3t rfl rfl
end Go.Abs
