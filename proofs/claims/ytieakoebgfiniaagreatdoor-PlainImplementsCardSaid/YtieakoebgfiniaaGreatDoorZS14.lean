/- table.instance -/
import Derived.Test.YtieakoebgfiniaaGreatDoorZS49
import Derived.Test.YtieakoebgfiniaaGreatDoorZS90
set_option linter.all false
set_option maxHeartbeats 1000000
set_option maxRecDepth 100000
namespace Go.Abs
open Go Go.Proofs Tryz
def C4t{p:Prog}{nm:A2}(h:F7 p nm=none):kindOf p nm=0/\Em p nm=[]:=by unfold F7 at h;simp[kindOf,Em,F7,h]
def C3w{p:Prog}{nm:A2}{d:Decl}(h:F7 p nm=some d):kindOf p nm=d.kind/\Em p nm=d.A1:=by have E:=h;unfold F7 at h;simp[kindOf,Em,F7,h]
abbrev q1C:List Nat:=[0,1,2,4,6,7,8,9]
def C1h(p:Prog)(h:p.Sm)(x:Ty)(k:Int)(O:k≠0):Aa prog 173 [.A9 (Dh p) 0,B7 x,A5 k] (.tuple [Ia ((F7 p x.name).getD default),Aw (Bh p x k)]):=by
 have I:=C3s p h x.name [];rw[C5j]at I;rw[show(p.decls.find? λd=>d.Fv x.name)=F7 p x.name from rfl]at I;have Z:=@C4t p x.name;have U:=@C3w p x.name;unfold Bh;generalize F7 p x.name=o at*;refine cB func173 ?_;refine sR q1C ?_;refine sC I q1C ?_;cases o with
 |none =>
  rw[(Z rfl).1];simp only[Option.isSome,Xa]
  (refine sG q1C [] 18 ga λK z=>?_;refine ev ?_;apply z;clear z K)
  rw[show decide ((0:Int)=k)=false by simpa using O.symm,C3];exact aR
 |some d =>
  obtain⟨W,V⟩:=U rfl;rw[W,V];simp only[Option.isSome,Dz];by_cases J:d.kind=k
  .subst J;by_cases L:d.A1.length=x.args.length
   .have E:(d.A1.length:Int)=x.args.length:=by omega
    (refine sG q1C [] 18 ga λK z=>?_;refine Ap E ?_;apply z;clear z K)
    rw[Bj L,Bj rfl];exact aR
   .have E:¬(d.A1.length:Int)=x.args.length:=by omega
    (refine sG q1C [] 18 ga λK z=>?_;refine Ap E ?_;apply z;clear z K)
    rw[C9 L,Rc];exact aR
  ·(refine sG q1C [] 18 ga λK z=>?_;refine Ap J ?_;apply z;clear z K)
   rw[C9 J,C3];exact aR
def Ah.subst(vars:List A2)(args:List Ty)(f:Ah):Ah:=⟨f.name,f.bound.subst vars args,f.pos⟩
def Param.subst(vars:List A2)(args:List Ty)(f:Param):Param:=⟨f.name,f.type.subst vars args,f.pos⟩
def A3.subst(vars:List A2)(args:List Ty)(s:A3):A3:=⟨s.name,s.A1.map (Ah.subst vars args),s.params.map (Param.subst vars args),s.result.subst vars args,s.pos⟩
def H0v(vars:List A2)(args:List Ty)(E:∀u,u∈args->u.Sm)(t:Ty)(h:t.Sm) :
  Aa prog 255 [B7 t,.A9 [.slice (Bq vars)] 0,.A9 [.slice (Ax args)] 0] (B7 (t.subst vars args)):=by
 refine cB func255 ?_;refine sR [0,1,2,3,4] ?_;refine sC (B7h vars args E t h) [0,1,2,3,4] ?_;exact aR
abbrev R7(s:A3):List SV:=[.d (.str s.name),.d (.slice (Ag s.A1)),.d (.slice (Av s.params)),.d (.str s.result.name),.d (.slice (Ax s.result.args)),.d (.int .i64 s.result.pos),.d (.int .i64 s.pos)]
abbrev Pu:List SV:=[.d (.str []),.d .nil,.d .nil,.d (.str []),.d .nil,.d (.int .i64 0),.d (.int .i64 0)]
abbrev B6w(vars:List A2)(args:List Ty):List SV:=[.A9 [.slice (Bq vars)] 0,.A9 [.slice (Ax args)] 0]
abbrev sgC(s:A3)(vars:List A2)(args:List Ty)(x y:SV):List SV:=[.d (.str s.name),x,y,.d (.str (s.result.subst vars args).name),.d (.slice (Ax (s.result.subst vars args).args)),.d (.int .i64 (s.result.subst vars args).pos),A5 s.pos]
abbrev sgO(s:A3)(vars:List A2)(args:List Ty):SV:=.agg (sgC s vars args (.acc 900) (.acc 901))
abbrev sgB(s:A3)(vars:List A2)(args:List Ty):Ab:=[(900,.rows 5 (Ag (s.A1.map (Ah.subst vars args)))),(901,.rows 5 (Av (s.params.map (Param.subst vars args))))]
def D9d(l:List Ah)(vars:List A2)(args:List Ty)(j:Nat)(d:Ah):Ag ((l.take j++[d]).map (Ah.subst vars args))=Ag ((l.take j).map (Ah.subst vars args))++[Jm (d.subst vars args)]:=by simp[Ag]
def D5o(l:List Param)(vars:List A2)(args:List Ty)(j:Nat)(d:Param):Av ((l.take j++[d]).map (Param.subst vars args))=Av ((l.take j).map (Param.subst vars args))++[G9 (d.subst vars args)]:=by simp[Av]
abbrev Qd:List Nat:=[0,1,2,4,5,7,9,20,21,22,23,42,43,44,45,900,901]
def E9i(vars:List A2)(args:List Ty)(Z:∀u,u∈args->u.Sm)(s:A3)(h:s.Sm):C8 prog 254 [Cy s,.Bf 255 (B6w vars args)] [] (sgO s vars args) (sgB s vars args):=by
 have J:∀t:Ty,t.Sm->Aa prog 255 (B7 t::B6w vars args) (B7 (t.subst vars args)):=λt ht=>H0v vars args Z t ht;have W:=h.A1.1;have V:=h.params.1;refine bB func254 ?_;refine sR Qd ?_
 (refine sG Qd [] 10 [⟨[],[],[5],[5]⟩,⟨[],[],[5],[5]⟩,⟨[],[],[5],[5]⟩,⟨[],[],[5],[5]⟩,⟨[],[],[5],[5]⟩,⟨[],[],[5],[5]⟩,⟨[],[],[5],[5]⟩,⟨[],[],[5],[5]⟩,⟨[],[],[5],[5]⟩,⟨[5],[5],[],[]⟩] λK z=>?_;refine ev ?_;refine cc (J s.result h.result) ?_;apply z;clear z K)
 refine A0.Rb 900 5 5 1 rfl rfl (by decide)<|kR Qd λO u1=>?_;refine A0.bb (A0.ii s.A1 (X:=Unit) (λj _=>[(1,.Bf 255 (B6w vars args)),(2,.box 2 0),(4,.box 4 0),(5,.box 5 0),(20,.d (.slice (Ag s.A1))),(21,A5 s.A1.length),(22,A5 j)])
  (λj _=>[(2,.cells (R7 s)),(4,.cells Pu),(5,.cells (sgC s vars args (.acc 900) (.d .nil))),(900,.rows 5 (Ag ((s.A1.take j).map (Ah.subst vars args))))])
  (λj _=>True) () trivial sS (by simp[ble,A7,Ag]) ?_ ?_)
 .intro _ _;rw[Ci];refine Ak B3 Qd ?_;refine A0.stop rfl ?_;simp only[A4,Ac,Af];refine u1 _ _ ?_;clear u1 O;refine A0.Rb 901 5 5 2 rfl rfl (by decide)<|kR Qd λO u1=>?_;refine A0.bb (A0.ii s.params (X:=Unit) (λj _=>[(1,.Bf 255 (B6w vars args)),(2,.box 2 0),(4,.box 4 0),(5,.box 5 0),(42,.d (.slice (Av s.params))),(43,A5 s.params.length),(44,A5 j)])
   (λj _=>[(2,.cells (R7 s)),(4,.cells Pu),(5,.cells (sgC s vars args (.acc 900) (.acc 901))),(900,.rows 5 (Ag (s.A1.map (Ah.subst vars args)))),(901,.rows 5 (Av ((s.params.take j).map (Param.subst vars args))))])
   (λj _=>True) () trivial sS (by simp[ble,A7,Av]) ?_ ?_)
  .intro _ _;rw[Ci];refine Ak B3 Qd ?_;refine A0.stop rfl ?_;simp only[A4,Ac,Af];refine u1 _ _<|sR Qd ?_;exact A0.ret ⟨_,by rw[results254];rfl,.inl rfl,by simp[ble,A7]⟩
  .intro j _ d hd E U tk I _;rw[tk,D5o];refine Ak I Qd ?_;refine A0.Er rfl<|sK λL u2=>A0.bb ?_
   (refine sV Qd λK z=>?_;refine ci (Du hd) ?_;apply z;clear z K)
   (refine lG Qd [] 12 [] λK z=>?_;refine ev ?_;refine cc (J d.type (h.params.2 d E).type) ?_;refine⟨by simp,by simp only[Bc,D4];unfold lim sm at*;omega,?_⟩;(try refine ev ?_);apply z;clear z K;try simp only[A4,Ac])
   refine u2 _ _ ?_;clear u2 L;refine lT Qd ?_;exact⟨(),trivial,sS,by simp[ble,A7,G9,Param.subst]⟩
 .intro j _ d hd E U tk I _;rw[tk,D9d];refine Ak I Qd ?_;refine A0.Er rfl<|sK λL u2=>A0.bb ?_
  (refine sV Qd λK z=>?_;refine ci (F4 hd) ?_;apply z;clear z K)
  (refine lG Qd [] 12 [] λK z=>?_;refine ev ?_;refine cc (J d.bound (h.A1.2 d E).bound) ?_;refine⟨by simp,by simp only[Bc,D4];unfold lim sm at*;omega,?_⟩;(try refine ev ?_);apply z;clear z K;try simp only[A4,Ac])
  refine u2 _ _ ?_;clear u2 L;refine lT Qd ?_;exact⟨(),trivial,sS,by simp[ble,A7,Jm,Ah.subst]⟩
def E6w(vars:List A2)(args:List Ty)(I:∀u,u∈args->u.Sm)(s:A3)(h:s.Sm):C8 prog 174 [Cy s,Cc vars,Cm args] [] (sgO s vars args) (sgB s vars args):=by
 have E:=E9i vars args I s h;refine bB func174 ?_;refine sR [0,1,2,3,4,5,6,900,901] ?_;refine A0.zz 4 rfl rfl<|A0.zz 5 rfl rfl<|A0.ww (sl':=[(3,.box 3 0),(4,.A9 [.slice (Bq vars)] 0),(5,.A9 [.slice (Ax args)] 0),(6,.box 6 0)]) (bx':=[(3,.cells (R7 s)),(6,.cells Pu)])
  (by simp[L7,SV.sub,SV.L8,sle,Ay,Ae]) (by simp[Jo,Aq.sub,SV.L8,SV.sub,ble,A7,Cd]) ?_
 (refine A0.D7 [0,1,2,3,4,5,6,900,901] [800009] (by decide +kernel) λK z=>?_;refine ev ?_;refine⟨_,_,_,C4g 900 901 rfl rfl E rfl (by decide) (by decide) (by decide) (by decide) rfl rfl,?_⟩;simp only[SV.Ek,SV.Nv,two,Af,Nat.reduceEqDiff,Fx];(try refine ev ?_);apply z;clear z K)
 exact A0.ret ⟨_,by rw[results174];rfl,.inl rfl,by simp[ble,A7]⟩
def E6h(vars:List A2)(args:List Ty)(E:∀u,u∈args->u.Sm)(s:A3)(h:s.Sm):Aa prog 174 [Cy s,Cc vars,Cm args] (Cy (s.subst vars args)) :=
 (E6w vars args E s h).B8e rfl rfl
abbrev P1:List Nat:=[0,1,2,3,6,7,8,9,10,11,26,50,900,901]
def D3v(vars:List A2)(args:List Ty)(L:∀u,u∈args->u.Sm)(s:A3)(h:s.Sm):C8 prog 166 [Cy s,Cc vars,Cm args] [] (sgO s vars args) (sgB s vars args):=by
 have W:=h.A1.1;have V:=h.params.1;refine bB func166 ?_;refine sR P1 ?_
 (refine sG P1 [] 11 [⟨[],[],[7],[7]⟩,⟨[],[],[7],[7]⟩,⟨[],[],[7],[7]⟩,⟨[],[],[7],[7]⟩,⟨[],[],[7],[7]⟩,⟨[],[],[7],[7]⟩,⟨[],[],[7],[7]⟩,⟨[],[],[7],[7]⟩,⟨[],[],[7],[7]⟩,⟨[],[],[7],[7]⟩,⟨[7],[7],[],[]⟩] λK z=>?_;refine ev ?_;refine cc (Pm vars args L s.result h.result) ?_;apply z;clear z K)
 refine A0.Rb 900 5 7 1 rfl rfl (by decide)<|kR P1 λO u1=>?_;refine A0.bb (A0.ii s.A1 (X:=Unit) (λj _=>[(1,Cc vars),(2,Cm args),(3,.box 3 0),(6,.box 6 0),(7,.box 7 0),(8,A5 j)])
  (λj _=>[(3,.cells (R7 s)),(6,.cells Pu),(7,.cells (sgC s vars args (.acc 900) (.d .nil))),(900,.rows 5 (Ag ((s.A1.take j).map (Ah.subst vars args))))])
  (λj _=>True) () trivial sS (by simp[ble,A7,Ag]) ?_ ?_)
 .intro _ _;rw[Ci];refine Ai B3 P1 λI u2=>?_;refine A0.ss rfl ?_;simp only[A4,Ac,Af];refine u1 _ _ ?_;clear u2 I u1 O;refine A0.Rb 901 5 7 2 rfl rfl (by decide)<|kR P1 λO u1=>?_;refine A0.bb (A0.ii s.params (X:=Unit) (λj _=>[(1,Cc vars),(2,Cm args),(3,.box 3 0),(6,.box 6 0),(7,.box 7 0),(10,A5 j)])
   (λj _=>[(3,.cells (R7 s)),(6,.cells Pu),(7,.cells (sgC s vars args (.acc 900) (.acc 901))),(900,.rows 5 (Ag (s.A1.map (Ah.subst vars args)))),(901,.rows 5 (Av ((s.params.take j).map (Param.subst vars args))))])
   (λj _=>True) () trivial sS (by simp[ble,A7,Av]) ?_ ?_)
  .intro _ _;rw[Ci];refine Ai B3 P1 λI u2=>?_;refine A0.ss rfl ?_;simp only[A4,Ac,Af];refine u1 _ _<|sR P1 ?_;exact A0.ret ⟨_,by rw[results166];rfl,.inl rfl,by simp[ble,A7]⟩
  .intro j _ d hd E U tk J _;rw[tk,D5o];refine Ai J P1 λI u2=>?_;refine gI u2 ?_;clear u2 I;refine sK λI u2=>A0.bb ?_
   (refine sV P1 λK z=>?_;refine ci (Du hd) ?_;apply z;clear z K)
   refine sC (Pm vars args L d.type (h.params.2 d E).type) P1 ?_
   (refine lV P1 λK z=>?_;refine⟨by simp,by simp only[Bc,D4];unfold lim sm at*;omega,?_⟩;(try refine ev ?_);apply z;clear z K;try simp only[A4,Ac])
   refine u2 _ _ ?_;clear u2 I;refine lT P1 ?_;exact⟨(),trivial,sS,by simp[ble,A7,G9,Param.subst]⟩
 .intro j _ d hd E U tk J _;rw[tk,D9d];refine Ai J P1 λI u2=>?_;refine gI u2 ?_;clear u2 I;refine sK λI u2=>A0.bb ?_
  (refine sV P1 λK z=>?_;refine ci (F4 hd) ?_;apply z;clear z K)
  refine sC (Pm vars args L d.bound (h.A1.2 d E).bound) P1 ?_
  (refine lV P1 λK z=>?_;refine⟨by simp,by simp only[Bc,D4];unfold lim sm at*;omega,?_⟩;(try refine ev ?_);apply z;clear z K;try simp only[A4,Ac])
  refine u2 _ _ ?_;clear u2 I;refine lT P1 ?_;exact⟨(),trivial,sS,by simp[ble,A7,Jm,Ah.subst]⟩
def E0e(vars:List A2)(args:List Ty)(E:∀u,u∈args->u.Sm)(s:A3)(h:s.Sm):Aa prog 166 [Cy s,Cc vars,Cm args] (Cy (s.subst vars args)) :=
 (D3v vars args E s h).B8e rfl rfl
def U7(i:Nat):Ty:=.mk (E0 i) [] 0
def D8(n:Nat):List Ty:=(List.range n).map U7
def D4i(j:Nat):Ax (D8 (j+1))=Ax (D8 j)++[[D.str (E0 j),.slice [],.int .i64 0]]:=by simp only[D8,List.range_succ,G0,Dj,Ck,G3,U7,Bo,Ty.name,Ty.args,Ty.pos]
def F3e(i:Nat)(h:i<=sm):(U7 i).Sm:=.mk _ _ _ (Cp (E2m i h) (by decide)) (by simp) (by simp)
def C4p(n:Nat)(h:n<=sm):∀u,u∈D8 n->u.Sm:=λu I=>by obtain⟨i,E,rfl⟩:=Au.1 I;exact F3e i (by have:=Ar8.1 E;omega)
def Ad(l:List Ah):List A2:=l.map (·.name)
def Ha(s:A3)(j:Nat):List Ah:=s.A1.mapIdx λi f=>⟨if i<j then E0 i else f.name,f.bound.subst (Ad s.A1) (D8 s.A1.length),f.pos⟩
def It(s:A3)(j:Nat):List Param:=s.params.mapIdx λi p=>⟨if i<j then[]else p.name,p.type.subst (Ad s.A1) (D8 s.A1.length),p.pos⟩
def A3.canon(s:A3):A3:=⟨s.name,Ha s s.A1.length,It s s.params.length,s.result.subst (Ad s.A1) (D8 s.A1.length),s.pos⟩
theorem Yf(s:A3)(j:Nat):(Ha s j).length=s.A1.length:=by simp[Ha]
def Vy(s:A3)(j:Nat):(It s j).length=s.params.length:=by simp[It]
def D2q(s:A3):Ha s 0=s.A1.map (Ah.subst (Ad s.A1) (D8 s.A1.length)):=by refine Ld λi=>?_;simp only[Ha,Sd,Df,Nat.not_lt_zero,Fx];rfl
def D7z(s:A3):It s 0=s.params.map (Param.subst (Ad s.A1) (D8 s.A1.length)):=by refine Ld λi=>?_;simp only[It,Sd,Df,Nat.not_lt_zero,Fx];rfl
def B1f{s:A3}{j:Nat}{d:Ah}(i:Nat)(h:s.A1[j]?=some d):(Ag (Ha s i))[j]?=some (Jm ⟨if j<i then E0 j else d.name,d.bound.subst (Ad s.A1) (D8 s.A1.length),d.pos⟩):=by simp only[Ag,Ha,Df,Sd,h,Ez]
def B2t{s:A3}{j:Nat}{d:Param}(i:Nat)(h:s.params[j]?=some d):(Av (It s i))[j]?=some (G9 ⟨if j<i then[]else d.name,d.type.subst (Ad s.A1) (D8 s.A1.length),d.pos⟩):=by simp only[Av,It,Df,Sd,h,Ez]
def E0m{s:A3}{j:Nat}{d:Ah}(h:s.A1[j]?=some d):(Ag (Ha s j)).set j (Jm ⟨E0 j,d.bound.subst (Ad s.A1) (D8 s.A1.length),d.pos⟩)=Ag (Ha s (j+1)):=by
 refine Ld λi=>?_;rw[Ao5];split
 .rename_i E;subst E;rw[A8 (by rw[Ag,Bc,Yf];exact(Az.1 h).1),B1f _ h,A8 (by omega)]
 .rename_i E;cases I:s.A1[i]? with
  |none=>simp[Ag,Ha,I]
  |some e =>
   rw[B1f _ I,B1f _ I];by_cases J:i<j
   .rw[A8 J,A8 (by omega)]
   .rw[A6 J,A6 (by omega)]
def E5v{s:A3}{j:Nat}{d:Param}(h:s.params[j]?=some d):(Av (It s j)).set j (G9 ⟨[],d.type.subst (Ad s.A1) (D8 s.A1.length),d.pos⟩)=Av (It s (j+1)):=by
 refine Ld λi=>?_;rw[Ao5];split
 .rename_i E;subst E;rw[A8 (by rw[Av,Bc,Vy];exact(Az.1 h).1),B2t _ h,A8 (by omega)]
 .rename_i E;cases I:s.params[i]? with
  |none=>simp[Av,It,I]
  |some e =>
   rw[B2t _ I,B2t _ I];by_cases J:i<j
   .rw[A8 J,A8 (by omega)]
   .rw[A6 J,A6 (by omega)]
abbrev cgC(s:A3):List SV:=sgC s (Ad s.A1) (D8 s.A1.length) (.acc 900) (.acc 901)
abbrev Kn:List Nat:=[0,1,2,3,4,5,6,7,10,11,12,29,30,31,43,44,45,900,901]
def G5h(s:A3)(h:s.Sm):C8 prog 175 [Cy s] [] (.agg (cgC s)) [(900,.rows 5 (Ag (Ha s s.A1.length))),(901,.rows 5 (Av (It s s.params.length)))]:=by
 have O:=h.A1.1;have W:=h.params.1;have I:=E6w (Ad s.A1) (D8 s.A1.length) (C4p _ O) s h;rw[sgB,<-D2q,<-D7z]at I;refine bB func175 ?_;refine sR Kn ?_;refine sR Kn ?_;refine A0.pp 3 3 3 rfl<|kR Kn λU u1=>?_;refine A0.bb (A0.ii s.A1 (X:=Unit) (λj _=>[(1,.box 1 0),(2,.box 2 0),(3,.acc 3),(10,A5 s.A1.length),(11,A5 j)])
  (λj _=>[(1,.cells (R7 s)),(2,.cells Pu),(3,.rows 3 (Ax (D8 j)))])
  (λj _=>True) () trivial sS (by simp[ble,A7,D8,Dj]) ?_ ?_)
 .intro _ _;refine Ak B3 Kn ?_;refine A0.stop rfl ?_;simp only[A4,Ac,Af];refine u1 _ _ ?_;clear u1 U;refine A0.Lw 3 rfl<|A0.ww (sl':=[(1,.box 1 0),(2,.box 2 0),(3,Cm (D8 s.A1.length))]) (bx':=[(1,.cells (R7 s)),(2,.cells Pu)])
   (by simp[L7,SV.sub,sle,Ay,Ae]) (by simp[Jo,Aq.sub,SV.L8,SV.sub,ble,A7,Cd]) ?_
  (refine sG Kn [800026] 7 gp λK z=>?_;refine ev ?_;refine cc (C1a s.A1 O) ?_;refine⟨_,_,_,C4g 900 901 rfl rfl I rfl (by decide) (by decide) (by decide) (by decide) rfl rfl,?_⟩;(try simp -implicitDefEqProofs only[EV,Nat.reduceAdd,Nat.reduceEqDiff,Nat.reduceBEq,Nat.reduceLeDiff,reduceCtorEq,Qb,SV.Ek,SV.Nv,two]);apply z;clear z K)
  refine A0.ww (sl':=[(2,.box 2 0),(5,.box 5 0)]) (bx':=[(2,.cells Pu),(5,.cells (cgC s)),(900,.rows 5 (Ag (Ha s 0))),(901,.rows 5 (Av (It s 0)))])
   sS sB ?_
  refine kR Kn λU u1=>?_;refine A0.bb (A0.ii s.A1 (X:=Unit) (λj _=>[(2,.box 2 0),(5,.box 5 0),(29,A5 s.A1.length),(30,A5 j)])
   (λj _=>[(2,.cells Pu),(5,.cells (cgC s)),(900,.rows 5 (Ag (Ha s j))),(901,.rows 5 (Av (It s 0)))])
   (λj _=>True) () trivial (by simp[sle,Ay,Ae,Yf]) sB ?_ ?_)
  .intro _ _;refine Ak B3 Kn ?_;refine A0.stop rfl ?_;simp only[A4,Ac,Af];refine u1 _ _ ?_;clear u1 U;refine kR Kn λU u1=>?_;refine A0.bb (A0.ii s.params (X:=Unit) (λj _=>[(2,.box 2 0),(5,.box 5 0),(43,A5 s.params.length),(44,A5 j)])
    (λj _=>[(2,.cells Pu),(5,.cells (cgC s)),(900,.rows 5 (Ag (Ha s s.A1.length))),(901,.rows 5 (Av (It s j)))])
    (λj _=>True) () trivial (by simp[sle,Ay,Ae,Vy]) sB ?_ ?_)
   .intro _ _;refine Ak B3 Kn ?_;refine A0.stop rfl ?_;simp only[A4,Ac,Af];refine u1 _ _<|sR Kn ?_;exact A0.ret ⟨_,by rw[results175];rfl,.inl rfl,by simp[ble,A7]⟩
   .intro j _ d hd J V tk E _;refine Ak E Kn ?_;refine A0.Er rfl<|sK λL u2=>A0.bb<|sR Kn ?_
    (refine lV Kn λK z=>?_;refine⟨by omega,by rw[Vy];omega,?_⟩;(try refine ev ?_);refine⟨_,[D.str []],B2t j hd,rfl,by simp[G9],?_⟩;(try refine ev ?_);apply z;clear z K;try simp only[A4,Ac])
    refine u2 _ _ ?_;clear u2 L;refine lT Kn ?_;exact⟨(),trivial,sS,by simp[ble,A7,<-E5v hd,G9]⟩
  .intro j _ d hd J V tk E _;refine Ak E Kn ?_;refine A0.Er rfl<|sK λL u2=>A0.bb<|sR Kn ?_
   (refine lG Kn [] 5 [] λK z=>?_;refine ev ?_;refine cc (D1u j (by omega)) ?_;refine⟨by omega,by rw[Yf];omega,?_⟩;(try refine ev ?_);refine⟨_,[D.str (E0 j)],B1f j hd,rfl,by simp[Jm],?_⟩;(try refine ev ?_);apply z;clear z K;try simp only[A4,Ac])
   refine u2 _ _ ?_;clear u2 L;refine lT Kn ?_;exact⟨(),trivial,sS,by simp[ble,A7,<-E0m hd,Jm]⟩
 .intro j _ d hd J V tk E _;rw[D4i];refine Ak E Kn ?_;refine A0.Er rfl<|sK λL u2=>A0.bb<|sR Kn ?_
  (refine lV Kn λK z=>?_;refine cc (D1u j (by omega)) ?_;refine⟨by simp,by simp only[D8,Bc,List.length_range];unfold lim sm at*;omega,?_⟩;(try refine ev ?_);apply z;clear z K;try simp only[A4,Ac])
  refine u2 _ _ ?_;clear u2 L;refine lT Kn ?_;refine⟨(),trivial,sS,?_⟩;simp[ble,A7]
def B8b(s:A3)(h:s.Sm):Aa prog 175 [Cy s] (Cy s.canon):=(G5h s h).B8e rfl rfl
def G4i{n j:Nat}(h:j<n):(Ax (D8 n))[j]?=some (Bo (U7 j)):=by simp[D8,Dj,Am0 h]
abbrev Mo:List Nat:=[0,1,2,3,4,5,6,7,12,31,48,900,901]
def F0v(s:A3)(h:s.Sm):C8 prog 165 [Cy s] [] (.agg (cgC s)) [(900,.rows 5 (Ag (Ha s s.A1.length))),(901,.rows 5 (Av (It s s.params.length)))]:=by
 have O:=h.A1.1;have W:=h.params.1;have J:=D3v (Ad s.A1) (D8 s.A1.length) (C4p _ O) s h;rw[sgB,<-D2q,<-D7z]at J;refine bB func165 ?_;refine sR Mo ?_;refine sR Mo ?_;refine A0.pp 3 3 3 rfl<|kR Mo λU u1=>?_;refine A0.bb (A0.ii s.A1 (X:=Unit) (λj _=>[(1,.box 1 0),(2,.box 2 0),(3,.acc 3),(4,A5 j)])
  (λj _=>[(1,.cells (R7 s)),(2,.cells Pu),(3,.rows 3 (Ax (D8 j)))])
  (λj _=>True) () trivial sS (by simp[ble,A7,D8,Dj]) ?_ ?_)
 .intro _ _;refine Ai B3 Mo λE u2=>?_;refine A0.ss rfl ?_;simp only[A4,Ac,Af];refine u1 _ _ ?_;clear u2 E u1 U;refine A0.Lw 3 rfl<|A0.ww (sl':=[(1,.box 1 0),(2,.box 2 0),(3,Cm (D8 s.A1.length))]) (bx':=[(1,.cells (R7 s)),(2,.cells Pu)])
   (by simp[L7,SV.sub,sle,Ay,Ae]) (by simp[Jo,Aq.sub,SV.L8,SV.sub,ble,A7,Cd]) ?_
  (refine sG Mo [800026] 7 gp λK z=>?_;refine ev ?_;refine cc (R3 s.A1 O) ?_;refine⟨_,_,_,C4g 900 901 rfl rfl J rfl (by decide) (by decide) (by decide) (by decide) rfl rfl,?_⟩;(try simp -implicitDefEqProofs only[EV,Nat.reduceAdd,Nat.reduceEqDiff,Nat.reduceBEq,Nat.reduceLeDiff,reduceCtorEq,Qb,SV.Ek,SV.Nv,two]);apply z;clear z K)
  refine A0.ww (sl':=[(2,.box 2 0),(3,Cm (D8 s.A1.length)),(5,.box 5 0)]) (bx':=[(2,.cells Pu),(5,.cells (cgC s)),(900,.rows 5 (Ag (Ha s 0))),(901,.rows 5 (Av (It s 0)))])
   sS sB ?_
  refine kR Mo λU u1=>?_;refine A0.bb (A0.ii s.A1 (X:=Unit) (λj _=>[(2,.box 2 0),(3,Cm (D8 s.A1.length)),(5,.box 5 0),(6,A5 j)])
   (λj _=>[(2,.cells Pu),(5,.cells (cgC s)),(900,.rows 5 (Ag (Ha s j))),(901,.rows 5 (Av (It s 0)))])
   (λj _=>True) () trivial sS sB ?_ ?_)
  .intro _ _;refine sK λE u2=>?_
   (refine sQ Mo λK z=>?_;simp -implicitDefEqProofs only[EV,Nat.reduceEqDiff,reduceCtorEq,W4,Qb,Yf,B3];apply z;clear z K)
   refine A0.ss rfl ?_;simp only[A4,Ac,Af];refine u1 _ _ ?_;clear u2 E u1 U;refine kR Mo λU u1=>?_;refine A0.bb (A0.ii s.params (X:=Unit) (λj _=>[(2,.box 2 0),(5,.box 5 0),(7,A5 j)])
    (λj _=>[(2,.cells Pu),(5,.cells (cgC s)),(900,.rows 5 (Ag (Ha s s.A1.length))),(901,.rows 5 (Av (It s j)))])
    (λj _=>True) () trivial sS sB ?_ ?_)
   .intro _ _;refine sK λE u2=>?_
    (refine sQ Mo λK z=>?_;simp -implicitDefEqProofs only[EV,Nat.reduceEqDiff,reduceCtorEq,A9j,Qb,Vy,B3];apply z;clear z K)
    refine A0.ss rfl ?_;simp only[A4,Ac,Af];refine u1 _ _<|sR Mo ?_;exact A0.ret ⟨_,by rw[results165];rfl,.inl rfl,by simp[ble,A7]⟩
   .intro j _ d hd L V tk I _;refine sK λE u2=>?_
    (refine sQ Mo λK z=>?_;simp -implicitDefEqProofs only[EV,Nat.reduceEqDiff,reduceCtorEq,A9j,Qb,Vy,I];apply z;clear z K)
    refine gI u2 ?_;clear u2 E;refine sK λE u2=>A0.bb ?_
    (refine lV Mo λK z=>?_;refine⟨by omega,by rw[Vy];omega,?_⟩;(try refine ev ?_);refine⟨_,[D.str []],B2t j hd,rfl,by simp[G9],?_⟩;(try refine ev ?_);apply z;clear z K;try simp only[A4,Ac])
    refine u2 _ _ ?_;clear u2 E;refine lT Mo ?_;exact⟨(),trivial,sS,by simp[ble,A7,<-E5v hd,G9]⟩
  .intro j _ d hd L V tk I _;refine sK λE u2=>?_
   (refine sQ Mo λK z=>?_;simp -implicitDefEqProofs only[EV,Nat.reduceEqDiff,reduceCtorEq,W4,Qb,Yf,I];apply z;clear z K)
   refine gI u2 ?_;clear u2 E;refine sK λE u2=>A0.bb ?_
   (refine lG Mo [] 8 [] λK z=>?_;refine ev ?_;refine⟨by omega,_,G4i (by omega),rfl,?_⟩;(try refine ev ?_);refine⟨by omega,by rw[Yf];omega,?_⟩;(try refine ev ?_);refine⟨_,[D.str (E0 j)],B1f j hd,rfl,by simp[Jm],?_⟩;(try refine ev ?_);apply z;clear z K;try simp only[A4,Ac])
   refine u2 _ _ ?_;clear u2 E;refine lT Mo ?_;exact⟨(),trivial,sS,by simp[ble,A7,<-E0m hd,Jm]⟩
 .intro j _ d hd L V tk I _;rw[D4i];refine Ai I Mo λE u2=>?_;refine gI u2 ?_;clear u2 E;refine sK λE u2=>A0.bb ?_
  (refine lV Mo λK z=>?_;refine cc (D0w j (by omega)) ?_;refine⟨by simp,by simp only[D8,Bc,List.length_range];unfold lim sm at*;omega,?_⟩;(try refine ev ?_);apply z;clear z K;try simp only[A4,Ac])
  refine u2 _ _ ?_;clear u2 E;refine lT Mo ?_;exact⟨(),trivial,sS,by simp[ble,A7]⟩
def B1s(s:A3)(h:s.Sm):Aa prog 165 [Cy s] (Cy s.canon):=(F0v s h).B8e rfl rfl
end Go.Abs
