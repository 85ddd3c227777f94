/- table.instance -/
import Derived.Test.YtcmlfpcaeflleaaGreatDoorGS49
import Derived.Test.YtcmlfpcaeflleaaGreatDoorGS90
set_option linter.all false
set_option maxHeartbeats 1000000
set_option maxRecDepth 100000
namespace Go.Abs
open Go Go.Proofs Tryz
def C8o{p:Prog}{E:A3}(h:G2 p E=none):kindOf p E=0/\Ey p E=[]:=by unfold G2 at h;simp[kindOf,Ey,G2,h]
def C6r{p:Prog}{E:A3}{d:Decl}(h:G2 p E=some d):kindOf p E=d.kind/\Ey p E=d.A1:=by have I:=h;unfold G2 at h;simp[kindOf,Ey,G2,h]
abbrev q1N:List Nat:=[0,1,2,4,6,7,8,9]
def B8b(p:Prog)(h:p.Sm)(x:Ty)(k:Int)(U:k≠0):Ac prog 144 [.Ah (Ep p) 0,B6 x,A8 k] (.tuple [Ma ((G2 p x.name).getD default),Ay (Ch p x k)]):=by
 have J:=B7d p h x.name [];rw[C7i]at J;rw[show(p.decls.find? λd=>d.Jx x.name)=G2 p x.name from rfl]at J;have W:=@C8o p x.name;have V:=@C6r p x.name;unfold Ch;generalize G2 p x.name=o at*;refine cB func144 ?_;refine sR q1N ?_;refine sC J q1N ?_;cases o with
 |none =>
  rw[(W rfl).1];simp only[Option.isSome,Nh]
  (refine sG q1N [] 18 [⟨[],[],[],[]⟩,⟨[],[],[],[]⟩,⟨[],[],[],[]⟩,⟨[],[],[],[]⟩,⟨[],[],[],[]⟩,⟨[],[],[],[]⟩,⟨[],[],[],[]⟩,⟨[],[],[],[]⟩,⟨[],[],[],[]⟩,⟨[],[],[6],[]⟩,⟨[],[],[6],[]⟩,⟨[],[],[6],[]⟩,⟨[],[],[6],[]⟩,⟨[],[],[6],[]⟩,⟨[],[],[6],[]⟩,⟨[],[],[6],[]⟩,⟨[],[],[6],[]⟩,⟨[6],[],[],[]⟩] λK z=>?_;refine ev ?_;apply z;clear z K)
  rw[show decide ((0:Int)=k)=false by simpa using U.symm,C9];exact aR
 |some d =>
  obtain⟨O,M⟩:=V rfl;rw[O,M];simp only[Option.isSome,E1];by_cases I:d.kind=k
  .subst I;by_cases L:d.A1.length=x.args.length
   .have E:(d.A1.length:Int)=x.args.length:=by omega
    (refine sG q1N [] 18 [⟨[],[],[],[]⟩,⟨[],[],[],[]⟩,⟨[],[],[],[]⟩,⟨[],[],[],[]⟩,⟨[],[],[],[]⟩,⟨[],[],[],[]⟩,⟨[],[],[],[]⟩,⟨[],[],[],[]⟩,⟨[],[],[],[]⟩,⟨[],[],[6],[]⟩,⟨[],[],[6],[]⟩,⟨[],[],[6],[]⟩,⟨[],[],[6],[]⟩,⟨[],[],[6],[]⟩,⟨[],[],[6],[]⟩,⟨[],[],[6],[]⟩,⟨[],[],[6],[]⟩,⟨[6],[],[],[]⟩] λK z=>?_;refine As E ?_;apply z;clear z K)
    rw[Bo L,Bo rfl];exact aR
   .have E:¬(d.A1.length:Int)=x.args.length:=by omega
    (refine sG q1N [] 18 [⟨[],[],[],[]⟩,⟨[],[],[],[]⟩,⟨[],[],[],[]⟩,⟨[],[],[],[]⟩,⟨[],[],[],[]⟩,⟨[],[],[],[]⟩,⟨[],[],[],[]⟩,⟨[],[],[],[]⟩,⟨[],[],[],[]⟩,⟨[],[],[6],[]⟩,⟨[],[],[6],[]⟩,⟨[],[],[6],[]⟩,⟨[],[],[6],[]⟩,⟨[],[],[6],[]⟩,⟨[],[],[6],[]⟩,⟨[],[],[6],[]⟩,⟨[],[],[6],[]⟩,⟨[6],[],[],[]⟩] λK z=>?_;refine As E ?_;apply z;clear z K)
    rw[Ce L,Wx];exact aR
  ·(refine sG q1N [] 18 [⟨[],[],[],[]⟩,⟨[],[],[],[]⟩,⟨[],[],[],[]⟩,⟨[],[],[],[]⟩,⟨[],[],[],[]⟩,⟨[],[],[],[]⟩,⟨[],[],[],[]⟩,⟨[],[],[],[]⟩,⟨[],[],[],[]⟩,⟨[],[],[6],[]⟩,⟨[],[],[6],[]⟩,⟨[],[],[6],[]⟩,⟨[],[],[6],[]⟩,⟨[],[],[6],[]⟩,⟨[],[],[6],[]⟩,⟨[],[],[6],[]⟩,⟨[],[],[6],[]⟩,⟨[6],[],[],[]⟩] λK z=>?_;refine As I ?_;apply z;clear z K)
   rw[Ce I,C9];exact aR
def Am.subst(vars:List A3)(args:List Ty)(f:Am):Am:=⟨f.name,f.bound.subst vars args,f.pos⟩
def Param.subst(vars:List A3)(args:List Ty)(f:Param):Param:=⟨f.name,f.type.subst vars args,f.pos⟩
def A5.subst(vars:List A3)(args:List Ty)(s:A5):A5:=⟨s.name,s.A1.map (Am.subst vars args),s.params.map (Param.subst vars args),s.result.subst vars args,s.pos⟩
def F2f(vars:List A3)(args:List Ty)(E:∀u,u∈args->u.Sm)(t:Ty)(h:t.Sm) :
  Ac prog 258 [B6 t,.Ah [.slice (C5 vars)] 0,.Ah [.slice (Au args)] 0] (B6 (t.subst vars args)):=by
 refine cB func258 ?_;refine sR [0,1,2,3,4] ?_;refine sC (A1v vars args E t h) [0,1,2,3,4] ?_;exact aR
abbrev Tg(s:A5):List SV:=[.d (.str s.name),.d (.slice (Ar s.A1)),.d (.slice (B9 s.params)),.d (.str s.result.name),.d (.slice (Au s.result.args)),.d (.int .i64 s.result.pos),.d (.int .i64 s.pos)]
abbrev Qm:List SV:=[.d (.str []),.d .nil,.d .nil,.d (.str []),.d .nil,.d (.int .i64 0),.d (.int .i64 0)]
abbrev B7p(vars:List A3)(args:List Ty):List SV:=[.Ah [.slice (C5 vars)] 0,.Ah [.slice (Au args)] 0]
abbrev sgC(s:A5)(vars:List A3)(args:List Ty)(x y:SV):List SV:=[.d (.str s.name),x,y,.d (.str (s.result.subst vars args).name),.d (.slice (Au (s.result.subst vars args).args)),.d (.int .i64 (s.result.subst vars args).pos),A8 s.pos]
abbrev sgO(s:A5)(vars:List A3)(args:List Ty):SV:=.agg (sgC s vars args (.acc 900) (.acc 901))
abbrev sgB(s:A5)(vars:List A3)(args:List Ty):Aa:=[(900,.rows 5 (Ar (s.A1.map (Am.subst vars args)))),(901,.rows 5 (B9 (s.params.map (Param.subst vars args))))]
def E5g(l:List Am)(vars:List A3)(args:List Ty)(j:Nat)(d:Am):Ar ((l.take j++[d]).map (Am.subst vars args))=Ar ((l.take j).map (Am.subst vars args))++[Jy (d.subst vars args)]:=by simp[Ar]
def E1i(l:List Param)(vars:List A3)(args:List Ty)(j:Nat)(d:Param):B9 ((l.take j++[d]).map (Param.subst vars args))=B9 ((l.take j).map (Param.subst vars args))++[Ha (d.subst vars args)]:=by simp[B9]
abbrev Rz:List Nat:=[0,1,2,4,5,7,9,20,21,22,23,42,43,44,45,900,901]
def F9z(vars:List A3)(args:List Ty)(V:∀u,u∈args->u.Sm)(s:A5)(h:s.Sm):Bj prog 257 [Ea s,.B0 258 (B7p vars args)] [] (sgO s vars args) (sgB s vars args):=by
 have M:∀t:Ty,t.Sm->Ac prog 258 (B6 t::B7p vars args) (B6 (t.subst vars args)):=λt ht=>F2f vars args V t ht;have a0:=h.A1.1;have W:=h.params.1;refine bB func257 ?_;refine sR Rz ?_
 (refine sG Rz [] 10 [⟨[],[],[5],[5]⟩,⟨[],[],[5],[5]⟩,⟨[],[],[5],[5]⟩,⟨[],[],[5],[5]⟩,⟨[],[],[5],[5]⟩,⟨[],[],[5],[5]⟩,⟨[],[],[5],[5]⟩,⟨[],[],[5],[5]⟩,⟨[],[],[5],[5]⟩,⟨[5],[5],[],[]⟩] λK z=>?_;refine ev ?_;refine cc (M s.result h.result) ?_;apply z;clear z K)
 refine A0.U7 900 5 5 1 rfl rfl (by decide)<|kR Rz λU u1=>?_;refine A0.bb (A0.ii s.A1 (X:=Unit) (λj _=>[(1,.B0 258 (B7p vars args)),(2,.box 2 0),(4,.box 4 0),(5,.box 5 0),(20,.d (.slice (Ar s.A1))),(21,A8 s.A1.length),(22,A8 j)])
  (λj _=>[(2,.cells (Tg s)),(4,.cells Qm),(5,.cells (sgC s vars args (.acc 900) (.d .nil))),(900,.rows 5 (Ar ((s.A1.take j).map (Am.subst vars args))))])
  (λj _=>True) () trivial sS (by simp[ble,A7,Ar]) ?_ ?_)
 .intro _ _;rw[Dm];refine Aq B3 Rz ?_;refine A0.stop rfl ?_;simp only[A4,Ab,Ae];refine u1 _ _ ?_;clear u1 U;refine A0.U7 901 5 5 2 rfl rfl (by decide)<|kR Rz λU u1=>?_;refine A0.bb (A0.ii s.params (X:=Unit) (λj _=>[(1,.B0 258 (B7p vars args)),(2,.box 2 0),(4,.box 4 0),(5,.box 5 0),(42,.d (.slice (B9 s.params))),(43,A8 s.params.length),(44,A8 j)])
   (λj _=>[(2,.cells (Tg s)),(4,.cells Qm),(5,.cells (sgC s vars args (.acc 900) (.acc 901))),(900,.rows 5 (Ar (s.A1.map (Am.subst vars args)))),(901,.rows 5 (B9 ((s.params.take j).map (Param.subst vars args))))])
   (λj _=>True) () trivial sS (by simp[ble,A7,B9]) ?_ ?_)
  .intro _ _;rw[Dm];refine Aq B3 Rz ?_;refine A0.stop rfl ?_;simp only[A4,Ab,Ae];refine u1 _ _<|sR Rz ?_;exact A0.ret ⟨_,by rw[results257];rfl,.inl rfl,by simp[ble,A7]⟩
  .intro j _ d L E Z O I _;rw[O,E1i];refine Aq I Rz ?_;refine A0.Fk rfl<|sK λJ u2=>A0.bb ?_
   (refine sV Rz λK z=>?_;refine ci (E9 L) ?_;apply z;clear z K)
   (refine lG Rz [] 12 [] λK z=>?_;refine ev ?_;refine cc (M d.type (h.params.2 d E).type) ?_;refine⟨by simp,by simp only[Bn,Dx];unfold lim sm at*;omega,?_⟩;(try refine ev ?_);apply z;clear z K;try simp only[A4,Ab])
   refine u2 _ _ ?_;clear u2 J;refine lT Rz ?_;exact⟨(),trivial,sS,by simp[ble,A7,Ha,Param.subst]⟩
 .intro j _ d L E Z O I _;rw[O,E5g];refine Aq I Rz ?_;refine A0.Fk rfl<|sK λJ u2=>A0.bb ?_
  (refine sV Rz λK z=>?_;refine ci (F5 L) ?_;apply z;clear z K)
  (refine lG Rz [] 12 [] λK z=>?_;refine ev ?_;refine cc (M d.bound (h.A1.2 d E).bound) ?_;refine⟨by simp,by simp only[Bn,Dx];unfold lim sm at*;omega,?_⟩;(try refine ev ?_);apply z;clear z K;try simp only[A4,Ab])
  refine u2 _ _ ?_;clear u2 J;refine lT Rz ?_;exact⟨(),trivial,sS,by simp[ble,A7,Jy,Am.subst]⟩
def E4i(vars:List A3)(args:List Ty)(E:∀u,u∈args->u.Sm)(s:A5)(h:s.Sm):Bj prog 213 [Ea s,Cy vars,Cd args] [] (sgO s vars args) (sgB s vars args):=by
 have I:=F9z vars args E s h;refine bB func213 ?_;refine sR [0,1,2,3,4,5,6,900,901] ?_;refine A0.zz 4 rfl rfl<|A0.zz 5 rfl rfl<|A0.ww (sl':=[(3,.box 3 0),(4,.Ah [.slice (C5 vars)] 0),(5,.Ah [.slice (Au args)] 0),(6,.box 6 0)]) (bx':=[(3,.cells (Tg s)),(6,.cells Qm)])
  (by simp[Mk,SV.sub,SV.La,sle,Ax,Ag]) (by simp[Lk,Ap.sub,SV.La,SV.sub,ble,A7,Ca]) ?_
 (refine A0.Ef [0,1,2,3,4,5,6,900,901] [800009] (by decide +kernel) λK z=>?_;refine ev ?_;refine⟨_,_,_,C6w 900 901 rfl rfl I rfl (by decide) (by decide) (by decide) (by decide) rfl rfl,?_⟩;simp only[SV.Dt,SV.Pg,two,Ae,Nat.reduceEqDiff,Fy];(try refine ev ?_);apply z;clear z K)
 exact A0.ret ⟨_,by rw[results213];rfl,.inl rfl,by simp[ble,A7]⟩
def B9m(vars:List A3)(args:List Ty)(E:∀u,u∈args->u.Sm)(s:A5)(h:s.Sm):Ac prog 213 [Ea s,Cy vars,Cd args] (Ea (s.subst vars args)) :=
 (E4i vars args E s h).B7u rfl rfl
abbrev Q0:List Nat:=[0,1,2,3,6,7,8,9,10,11,26,50,900,901]
def E1m(vars:List A3)(args:List Ty)(L:∀u,u∈args->u.Sm)(s:A5)(h:s.Sm):Bj prog 191 [Ea s,Cy vars,Cd args] [] (sgO s vars args) (sgB s vars args):=by
 have Z:=h.A1.1;have V:=h.params.1;refine bB func191 ?_;refine sR Q0 ?_
 (refine sG Q0 [] 11 [⟨[],[],[7],[7]⟩,⟨[],[],[7],[7]⟩,⟨[],[],[7],[7]⟩,⟨[],[],[7],[7]⟩,⟨[],[],[7],[7]⟩,⟨[],[],[7],[7]⟩,⟨[],[],[7],[7]⟩,⟨[],[],[7],[7]⟩,⟨[],[],[7],[7]⟩,⟨[],[],[7],[7]⟩,⟨[7],[7],[],[]⟩] λK z=>?_;refine ev ?_;refine cc (Vy vars args L s.result h.result) ?_;apply z;clear z K)
 refine A0.U7 900 5 7 1 rfl rfl (by decide)<|kR Q0 λU u1=>?_;refine A0.bb (A0.ii s.A1 (X:=Unit) (λj _=>[(1,Cy vars),(2,Cd args),(3,.box 3 0),(6,.box 6 0),(7,.box 7 0),(8,A8 j)])
  (λj _=>[(3,.cells (Tg s)),(6,.cells Qm),(7,.cells (sgC s vars args (.acc 900) (.d .nil))),(900,.rows 5 (Ar ((s.A1.take j).map (Am.subst vars args))))])
  (λj _=>True) () trivial sS (by simp[ble,A7,Ar]) ?_ ?_)
 .intro _ _;rw[Dm];refine Ai B3 Q0 λI u2=>?_;refine A0.ss rfl ?_;simp only[A4,Ab,Ae];refine u1 _ _ ?_;clear u2 I u1 U;refine A0.U7 901 5 7 2 rfl rfl (by decide)<|kR Q0 λU u1=>?_;refine A0.bb (A0.ii s.params (X:=Unit) (λj _=>[(1,Cy vars),(2,Cd args),(3,.box 3 0),(6,.box 6 0),(7,.box 7 0),(10,A8 j)])
   (λj _=>[(3,.cells (Tg s)),(6,.cells Qm),(7,.cells (sgC s vars args (.acc 900) (.acc 901))),(900,.rows 5 (Ar (s.A1.map (Am.subst vars args)))),(901,.rows 5 (B9 ((s.params.take j).map (Param.subst vars args))))])
   (λj _=>True) () trivial sS (by simp[ble,A7,B9]) ?_ ?_)
  .intro _ _;rw[Dm];refine Ai B3 Q0 λI u2=>?_;refine A0.ss rfl ?_;simp only[A4,Ab,Ae];refine u1 _ _<|sR Q0 ?_;exact A0.ret ⟨_,by rw[results191];rfl,.inl rfl,by simp[ble,A7]⟩
  .intro j _ d M E W O J _;rw[O,E1i];refine Ai J Q0 λI u2=>?_;refine gI u2 ?_;clear u2 I;refine sK λI u2=>A0.bb ?_
   (refine sV Q0 λK z=>?_;refine ci (E9 M) ?_;apply z;clear z K)
   refine sC (Vy vars args L d.type (h.params.2 d E).type) Q0 ?_
   (refine lV Q0 λK z=>?_;refine⟨by simp,by simp only[Bn,Dx];unfold lim sm at*;omega,?_⟩;(try refine ev ?_);apply z;clear z K;try simp only[A4,Ab])
   refine u2 _ _ ?_;clear u2 I;refine lT Q0 ?_;exact⟨(),trivial,sS,by simp[ble,A7,Ha,Param.subst]⟩
 .intro j _ d M E W O J _;rw[O,E5g];refine Ai J Q0 λI u2=>?_;refine gI u2 ?_;clear u2 I;refine sK λI u2=>A0.bb ?_
  (refine sV Q0 λK z=>?_;refine ci (F5 M) ?_;apply z;clear z K)
  refine sC (Vy vars args L d.bound (h.A1.2 d E).bound) Q0 ?_
  (refine lV Q0 λK z=>?_;refine⟨by simp,by simp only[Bn,Dx];unfold lim sm at*;omega,?_⟩;(try refine ev ?_);apply z;clear z K;try simp only[A4,Ab])
  refine u2 _ _ ?_;clear u2 I;refine lT Q0 ?_;exact⟨(),trivial,sS,by simp[ble,A7,Jy,Am.subst]⟩
def D4n(vars:List A3)(args:List Ty)(E:∀u,u∈args->u.Sm)(s:A5)(h:s.Sm):Ac prog 191 [Ea s,Cy vars,Cd args] (Ea (s.subst vars args)) :=
 (E1m vars args E s h).B7u rfl rfl
def Ve(i:Nat):Ty:=.mk (G0 i) [] 0
def Dg(n:Nat):List Ty:=(List.range n).map Ve
def E1v(j:Nat):Au (Dg (j+1))=Au (Dg j)++[[D.str (G0 j),.slice [],.int .i64 0]]:=by simp only[Dg,List.range_succ,Gg,Cz,Ck,Hy,Ve,Be,Ty.name,Ty.args,Ty.pos]
def F4y(i:Nat)(h:i<=sm):(Ve i).Sm:=.mk _ _ _ (D3 (E6h i h) (by decide)) (by simp) (by simp)
def C4c(n:Nat)(h:n<=sm):∀u,u∈Dg n->u.Sm:=λu I=>by obtain⟨i,E,rfl⟩:=B1.1 I;exact F4y i (by have:=Aq9.1 E;omega)
def Af(l:List Am):List A3:=l.map (·.name)
def Hp(s:A5)(j:Nat):List Am:=s.A1.mapIdx λi f=>⟨if i<j then G0 i else f.name,f.bound.subst (Af s.A1) (Dg s.A1.length),f.pos⟩
def Kg(s:A5)(j:Nat):List Param:=s.params.mapIdx λi p=>⟨if i<j then[]else p.name,p.type.subst (Af s.A1) (Dg s.A1.length),p.pos⟩
def A5.canon(s:A5):A5:=⟨s.name,Hp s s.A1.length,Kg s s.params.length,s.result.subst (Af s.A1) (Dg s.A1.length),s.pos⟩
def A1t(s:A5)(j:Nat):(Hp s j).length=s.A1.length:=by simp[Hp]
def A4y(s:A5)(j:Nat):(Kg s j).length=s.params.length:=by simp[Kg]
def D7b(s:A5):Hp s 0=s.A1.map (Am.subst (Af s.A1) (Dg s.A1.length)):=by refine M3 λi=>?_;simp only[Hp,Wu,Db,Nat.not_lt_zero,Fy];rfl
def D5n(s:A5):Kg s 0=s.params.map (Param.subst (Af s.A1) (Dg s.A1.length)):=by refine M3 λi=>?_;simp only[Kg,Wu,Db,Nat.not_lt_zero,Fy];rfl
def B2h{s:A5}{j:Nat}{d:Am}(i:Nat)(h:s.A1[j]?=some d):(Ar (Hp s i))[j]?=some (Jy ⟨if j<i then G0 j else d.name,d.bound.subst (Af s.A1) (Dg s.A1.length),d.pos⟩):=by simp only[Ar,Hp,Db,Wu,h,Eu]
def B6w{s:A5}{j:Nat}{d:Param}(i:Nat)(h:s.params[j]?=some d):(B9 (Kg s i))[j]?=some (Ha ⟨if j<i then[]else d.name,d.type.subst (Af s.A1) (Dg s.A1.length),d.pos⟩):=by simp only[B9,Kg,Db,Wu,h,Eu]
def D7h{s:A5}{j:Nat}{d:Am}(h:s.A1[j]?=some d):(Ar (Hp s j)).set j (Jy ⟨G0 j,d.bound.subst (Af s.A1) (Dg s.A1.length),d.pos⟩)=Ar (Hp s (j+1)):=by
 refine M3 λi=>?_;rw[Ao8];split
 .rename_i E;subst E;rw[A9 (by rw[Ar,Bn,A1t];exact(B5.1 h).1),B2h _ h,A9 (by omega)]
 .rename_i E;cases I:s.A1[i]? with
  |none=>simp[Ar,Hp,I]
  |some e =>
   rw[B2h _ I,B2h _ I];by_cases J:i<j
   .rw[A9 J,A9 (by omega)]
   .rw[A6 J,A6 (by omega)]
def D6p{s:A5}{j:Nat}{d:Param}(h:s.params[j]?=some d):(B9 (Kg s j)).set j (Ha ⟨[],d.type.subst (Af s.A1) (Dg s.A1.length),d.pos⟩)=B9 (Kg s (j+1)):=by
 refine M3 λi=>?_;rw[Ao8];split
 .rename_i E;subst E;rw[A9 (by rw[B9,Bn,A4y];exact(B5.1 h).1),B6w _ h,A9 (by omega)]
 .rename_i E;cases I:s.params[i]? with
  |none=>simp[B9,Kg,I]
  |some e =>
   rw[B6w _ I,B6w _ I];by_cases J:i<j
   .rw[A9 J,A9 (by omega)]
   .rw[A6 J,A6 (by omega)]
abbrev cgC(s:A5):List SV:=sgC s (Af s.A1) (Dg s.A1.length) (.acc 900) (.acc 901)
abbrev L6:List Nat:=[0,1,2,3,4,5,6,7,10,11,12,29,30,31,43,44,45,900,901]
def G1h(s:A5)(h:s.Sm):Bj prog 227 [Ea s] [] (.agg (cgC s)) [(900,.rows 5 (Ar (Hp s s.A1.length))),(901,.rows 5 (B9 (Kg s s.params.length)))]:=by
 have O:=h.A1.1;have Z:=h.params.1;have J:=E4i (Af s.A1) (Dg s.A1.length) (C4c _ O) s h;rw[sgB,<-D7b,<-D5n]at J;refine bB func227 ?_;refine sR L6 ?_;refine sR L6 ?_;refine A0.pp 3 3 3 rfl<|kR L6 λU u1=>?_;refine A0.bb (A0.ii s.A1 (X:=Unit) (λj _=>[(1,.box 1 0),(2,.box 2 0),(3,.acc 3),(10,A8 s.A1.length),(11,A8 j)])
  (λj _=>[(1,.cells (Tg s)),(2,.cells Qm),(3,.rows 3 (Au (Dg j)))])
  (λj _=>True) () trivial sS (by simp[ble,A7,Dg,Cz]) ?_ ?_)
 .intro _ _;refine Aq B3 L6 ?_;refine A0.stop rfl ?_;simp only[A4,Ab,Ae];refine u1 _ _ ?_;clear u1 U;refine A0.Jq 3 rfl<|A0.ww (sl':=[(1,.box 1 0),(2,.box 2 0),(3,Cd (Dg s.A1.length))]) (bx':=[(1,.cells (Tg s)),(2,.cells Qm)])
   (by simp[Mk,SV.sub,sle,Ax,Ag]) (by simp[Lk,Ap.sub,SV.La,SV.sub,ble,A7,Ca]) ?_
  (refine sG L6 [800026] 7 [⟨[],[],[5],[5]⟩,⟨[],[],[5],[5]⟩,⟨[],[],[5],[5]⟩,⟨[],[],[5],[5]⟩,⟨[],[],[5],[5]⟩,⟨[900,901],[900,901],[5],[5]⟩,⟨[5],[5],[900,901],[900,901]⟩] λK z=>?_;refine ev ?_;refine cc (A4d s.A1 O) ?_;refine⟨_,_,_,C6w 900 901 rfl rfl J rfl (by decide) (by decide) (by decide) (by decide) rfl rfl,?_⟩;(try simp -implicitDefEqProofs only[EV,Nat.reduceAdd,Nat.reduceEqDiff,Nat.reduceBEq,Nat.reduceLeDiff,reduceCtorEq,Td,SV.Dt,SV.Pg,two]);apply z;clear z K)
  refine A0.ww (sl':=[(2,.box 2 0),(5,.box 5 0)]) (bx':=[(2,.cells Qm),(5,.cells (cgC s)),(900,.rows 5 (Ar (Hp s 0))),(901,.rows 5 (B9 (Kg s 0)))])
   sS sB ?_
  refine kR L6 λU u1=>?_;refine A0.bb (A0.ii s.A1 (X:=Unit) (λj _=>[(2,.box 2 0),(5,.box 5 0),(29,A8 s.A1.length),(30,A8 j)])
   (λj _=>[(2,.cells Qm),(5,.cells (cgC s)),(900,.rows 5 (Ar (Hp s j))),(901,.rows 5 (B9 (Kg s 0)))])
   (λj _=>True) () trivial (by simp[sle,Ax,Ag,A1t]) sB ?_ ?_)
  .intro _ _;refine Aq B3 L6 ?_;refine A0.stop rfl ?_;simp only[A4,Ab,Ae];refine u1 _ _ ?_;clear u1 U;refine kR L6 λU u1=>?_;refine A0.bb (A0.ii s.params (X:=Unit) (λj _=>[(2,.box 2 0),(5,.box 5 0),(43,A8 s.params.length),(44,A8 j)])
    (λj _=>[(2,.cells Qm),(5,.cells (cgC s)),(900,.rows 5 (Ar (Hp s s.A1.length))),(901,.rows 5 (B9 (Kg s j)))])
    (λj _=>True) () trivial (by simp[sle,Ax,Ag,A4y]) sB ?_ ?_)
   .intro _ _;refine Aq B3 L6 ?_;refine A0.stop rfl ?_;simp only[A4,Ab,Ae];refine u1 _ _<|sR L6 ?_;exact A0.ret ⟨_,by rw[results227];rfl,.inl rfl,by simp[ble,A7]⟩
   .intro j _ d L I W V E _;refine Aq E L6 ?_;refine A0.Fk rfl<|sK λM u2=>A0.bb<|sR L6 ?_
    (refine lV L6 λK z=>?_;refine⟨by omega,by rw[A4y];omega,?_⟩;(try refine ev ?_);refine⟨_,[D.str []],B6w j L,rfl,by simp[Ha],?_⟩;(try refine ev ?_);apply z;clear z K;try simp only[A4,Ab])
    refine u2 _ _ ?_;clear u2 M;refine lT L6 ?_;exact⟨(),trivial,sS,by simp[ble,A7,<-D6p L,Ha]⟩
  .intro j _ d L I W V E _;refine Aq E L6 ?_;refine A0.Fk rfl<|sK λM u2=>A0.bb<|sR L6 ?_
   (refine lG L6 [] 5 [] λK z=>?_;refine ev ?_;refine cc (E5y j (by omega)) ?_;refine⟨by omega,by rw[A1t];omega,?_⟩;(try refine ev ?_);refine⟨_,[D.str (G0 j)],B2h j L,rfl,by simp[Jy],?_⟩;(try refine ev ?_);apply z;clear z K;try simp only[A4,Ab])
   refine u2 _ _ ?_;clear u2 M;refine lT L6 ?_;exact⟨(),trivial,sS,by simp[ble,A7,<-D7h L,Jy]⟩
 .intro j _ d L I W V E _;rw[E1v];refine Aq E L6 ?_;refine A0.Fk rfl<|sK λM u2=>A0.bb<|sR L6 ?_
  (refine lV L6 λK z=>?_;refine cc (E5y j (by omega)) ?_;refine⟨by simp,by simp only[Dg,Bn,List.length_range];unfold lim sm at*;omega,?_⟩;(try refine ev ?_);apply z;clear z K;try simp only[A4,Ab])
  refine u2 _ _ ?_;clear u2 M;refine lT L6 ?_;refine⟨(),trivial,sS,?_⟩;simp[ble,A7]
def C1m(s:A5)(h:s.Sm):Ac prog 227 [Ea s] (Ea s.canon):=(G1h s h).B7u rfl rfl
def F3v{n j:Nat}(h:j<n):(Au (Dg n))[j]?=some (Be (Ve j)):=by simp[Dg,Cz,Yo h]
abbrev Mz:List Nat:=[0,1,2,3,4,5,6,7,12,31,48,900,901]
def G7c(s:A5)(h:s.Sm):Bj prog 192 [Ea s] [] (.agg (cgC s)) [(900,.rows 5 (Ar (Hp s s.A1.length))),(901,.rows 5 (B9 (Kg s s.params.length)))]:=by
 have O:=h.A1.1;have Z:=h.params.1;have L:=E1m (Af s.A1) (Dg s.A1.length) (C4c _ O) s h;rw[sgB,<-D7b,<-D5n]at L;refine bB func192 ?_;refine sR Mz ?_;refine sR Mz ?_;refine A0.pp 3 3 3 rfl<|kR Mz λU u1=>?_;refine A0.bb (A0.ii s.A1 (X:=Unit) (λj _=>[(1,.box 1 0),(2,.box 2 0),(3,.acc 3),(4,A8 j)])
  (λj _=>[(1,.cells (Tg s)),(2,.cells Qm),(3,.rows 3 (Au (Dg j)))])
  (λj _=>True) () trivial sS (by simp[ble,A7,Dg,Cz]) ?_ ?_)
 .intro _ _;refine Ai B3 Mz λE u2=>?_;refine A0.ss rfl ?_;simp only[A4,Ab,Ae];refine u1 _ _ ?_;clear u2 E u1 U;refine A0.Jq 3 rfl<|A0.ww (sl':=[(1,.box 1 0),(2,.box 2 0),(3,Cd (Dg s.A1.length))]) (bx':=[(1,.cells (Tg s)),(2,.cells Qm)])
   (by simp[Mk,SV.sub,sle,Ax,Ag]) (by simp[Lk,Ap.sub,SV.La,SV.sub,ble,A7,Ca]) ?_
  (refine sG Mz [800026] 7 [⟨[],[],[5],[5]⟩,⟨[],[],[5],[5]⟩,⟨[],[],[5],[5]⟩,⟨[],[],[5],[5]⟩,⟨[],[],[5],[5]⟩,⟨[900,901],[900,901],[5],[5]⟩,⟨[5],[5],[900,901],[900,901]⟩] λK z=>?_;refine ev ?_;refine cc (Vq s.A1 O) ?_;refine⟨_,_,_,C6w 900 901 rfl rfl L rfl (by decide) (by decide) (by decide) (by decide) rfl rfl,?_⟩;(try simp -implicitDefEqProofs only[EV,Nat.reduceAdd,Nat.reduceEqDiff,Nat.reduceBEq,Nat.reduceLeDiff,reduceCtorEq,Td,SV.Dt,SV.Pg,two]);apply z;clear z K)
  refine A0.ww (sl':=[(2,.box 2 0),(3,Cd (Dg s.A1.length)),(5,.box 5 0)]) (bx':=[(2,.cells Qm),(5,.cells (cgC s)),(900,.rows 5 (Ar (Hp s 0))),(901,.rows 5 (B9 (Kg s 0)))])
   sS sB ?_
  refine kR Mz λU u1=>?_;refine A0.bb (A0.ii s.A1 (X:=Unit) (λj _=>[(2,.box 2 0),(3,Cd (Dg s.A1.length)),(5,.box 5 0),(6,A8 j)])
   (λj _=>[(2,.cells Qm),(5,.cells (cgC s)),(900,.rows 5 (Ar (Hp s j))),(901,.rows 5 (B9 (Kg s 0)))])
   (λj _=>True) () trivial sS sB ?_ ?_)
  .intro _ _;refine sK λE u2=>?_
   (refine sQ Mz λK z=>?_;simp -implicitDefEqProofs only[EV,Nat.reduceEqDiff,reduceCtorEq,B1j,Td,A1t,B3];apply z;clear z K)
   refine A0.ss rfl ?_;simp only[A4,Ab,Ae];refine u1 _ _ ?_;clear u2 E u1 U;refine kR Mz λU u1=>?_;refine A0.bb (A0.ii s.params (X:=Unit) (λj _=>[(2,.box 2 0),(5,.box 5 0),(7,A8 j)])
    (λj _=>[(2,.cells Qm),(5,.cells (cgC s)),(900,.rows 5 (Ar (Hp s s.A1.length))),(901,.rows 5 (B9 (Kg s j)))])
    (λj _=>True) () trivial sS sB ?_ ?_)
   .intro _ _;refine sK λE u2=>?_
    (refine sQ Mz λK z=>?_;simp -implicitDefEqProofs only[EV,Nat.reduceEqDiff,reduceCtorEq,Vi,Td,A4y,B3];apply z;clear z K)
    refine A0.ss rfl ?_;simp only[A4,Ab,Ae];refine u1 _ _<|sR Mz ?_;exact A0.ret ⟨_,by rw[results192];rfl,.inl rfl,by simp[ble,A7]⟩
   .intro j _ d M J W V I _;refine sK λE u2=>?_
    (refine sQ Mz λK z=>?_;simp -implicitDefEqProofs only[EV,Nat.reduceEqDiff,reduceCtorEq,Vi,Td,A4y,I];apply z;clear z K)
    refine gI u2 ?_;clear u2 E;refine sK λE u2=>A0.bb ?_
    (refine lV Mz λK z=>?_;refine⟨by omega,by rw[A4y];omega,?_⟩;(try refine ev ?_);refine⟨_,[D.str []],B6w j M,rfl,by simp[Ha],?_⟩;(try refine ev ?_);apply z;clear z K;try simp only[A4,Ab])
    refine u2 _ _ ?_;clear u2 E;refine lT Mz ?_;exact⟨(),trivial,sS,by simp[ble,A7,<-D6p M,Ha]⟩
  .intro j _ d M J W V I _;refine sK λE u2=>?_
   (refine sQ Mz λK z=>?_;simp -implicitDefEqProofs only[EV,Nat.reduceEqDiff,reduceCtorEq,B1j,Td,A1t,I];apply z;clear z K)
   refine gI u2 ?_;clear u2 E;refine sK λE u2=>A0.bb ?_
   (refine lG Mz [] 8 [] λK z=>?_;refine ev ?_;refine⟨by omega,_,F3v (by omega),rfl,?_⟩;(try refine ev ?_);refine⟨by omega,by rw[A1t];omega,?_⟩;(try refine ev ?_);refine⟨_,[D.str (G0 j)],B2h j M,rfl,by simp[Jy],?_⟩;(try refine ev ?_);apply z;clear z K;try simp only[A4,Ab])
   refine u2 _ _ ?_;clear u2 E;refine lT Mz ?_;exact⟨(),trivial,sS,by simp[ble,A7,<-D7h M,Jy]⟩
 .intro j _ d M J W V I _;rw[E1v];refine Ai I Mz λE u2=>?_;refine gI u2 ?_;clear u2 E;refine sK λE u2=>A0.bb ?_
  (refine lV Mz λK z=>?_;refine cc (G6g j (by omega)) ?_;refine⟨by simp,by simp only[Dg,Bn,List.length_range];unfold lim sm at*;omega,?_⟩;(try refine ev ?_);apply z;clear z K;try simp only[A4,Ab])
  refine u2 _ _ ?_;clear u2 E;refine lT Mz ?_;exact⟨(),trivial,sS,by simp[ble,A7]⟩
def B8g(s:A5)(h:s.Sm):Ac prog 192 [Ea s] (Ea s.canon):=(G7c s h).B7u rfl rfl
end Go.Abs
