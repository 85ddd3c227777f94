import Derived.Test.YtoajimpjknbnoaaGreatDoorKS49
set_option linter.all false
set_option maxHeartbeats 1000000
set_option maxRecDepth 100000
namespace Go.iA
open Go Go.Proofs Tryz
def rV{p:Prog}{nm:A3}(h:Ec p nm=none):kindOf p nm=0/\Dm p nm=[]:=by unfold Ec at h;simp[kindOf,Dm,Ec,h]
def zU{p:Prog}{nm:A3}{d:Decl}(h:Ec p nm=some d):kindOf p nm=d.kind/\Dm p nm=d.A1:=by have E:=h;unfold Ec at h;simp[kindOf,Dm,Ec,h]
abbrev YH:=[0,1,2,4,6,7,8,9]
def MS(p:Prog)(h:p.Sm)(x:Ty)(k:Int)(W:k≠0):Ab prog 162 [.A8 (D4 p) 0,Ba x,A6 k] (.tuple [Hw ((Ec p x.name).getD default),Ar (B9 p x k)]):=by
 have I:=YR p h x.name [];rw[XR]at I;rw[show(p.decls.find? λd=>d.E5 x.name)=Ec p x.name from rfl]at I;have O:=@rV p x.name;have Z:=@zU p x.name;unfold B9;generalize Ec p x.name=o at*;refine cB func162 ?_;refine sR YH ?_;refine sC I YH ?_;cases o with
 |none =>rw[(O rfl).1];simp only[Option.isSome,jC];refine sG YH [] 18 ga λK z=>?_;refine ev ?_;apply z;rw[show decide ((0:Int)=k)=false by simpa using W.symm,C6];exact aR
 |some d =>
  obtain⟨U,V⟩:=Z rfl;rw[U,V];simp only[Option.isSome,Dx];by_cases J:d.kind=k
  .subst J;by_cases L:d.A1.length=x.args.length
   .have E:(d.A1.length:Int)=x.args.length:=by omega
    (refine sG YH [] 18 ga λK z=>?_;refine Bb E ?_;apply z)
    rw[Bn L,Bn rfl];exact aR
   .have E:¬(d.A1.length:Int)=x.args.length:=by omega
    (refine sG YH [] 18 ga λK z=>?_;refine Bb E ?_;apply z)
    rw[Cb L,Tx];exact aR
  ·(refine sG YH [] 18 ga λK z=>?_;refine Bb J ?_;apply z)
   rw[Cb J,C6];exact aR
def Aj.subst(vars:List A3)(args:List Ty)(f:Aj):Aj:=⟨f.name,f.bound.subst vars args,f.pos⟩
def Param.subst(vars:List A3)(args:List Ty)(f:Param):Param:=⟨f.name,f.type.subst vars args,f.pos⟩
def A4.subst(vars:List A3)(args:List Ty)(s:A4):A4:=⟨s.name,s.A1.map (Aj.subst vars args),s.params.map (Param.subst vars args),s.result.subst vars args,s.pos⟩
def G1p(vars:List A3)(args:List Ty)(E:∀u,u∈args->u.Sm)(t:Ty)(h:t.Sm) :Ab prog 242 [Ba t,.A8 [.slice (Bq vars)] 0,.A8 [.slice (Au args)] 0] (Ba (t.subst vars args)):=by refine cB func242 ?_;refine sR [0,1,2,3,4] ?_;refine sC (OP vars args E t h) [0,1,2,3,4] ?_;exact aR
abbrev Q3(s:A4):List SV:=[.d (.str s.name),.d (.slice (Ai s.A1)),.d (.slice (Aw s.params)),.d (.str s.result.name),.d (.slice (Au s.result.args)),.d (.int .i64 s.result.pos),.d (.int .i64 s.pos)]
abbrev Rc:List SV:=[.d (.str []),.d .nil,.d .nil,.d (.str []),.d .nil,.d (.int .i64 0),.d (.int .i64 0)]
abbrev fQ(vars:List A3)(args:List Ty):List SV:=[.A8 [.slice (Bq vars)] 0,.A8 [.slice (Au args)] 0]
abbrev sgC(s:A4)(vars:List A3)(args:List Ty)(x y:SV):List SV:=[.d (.str s.name),x,y,.d (.str (s.result.subst vars args).name),.d (.slice (Au (s.result.subst vars args).args)),.d (.int .i64 (s.result.subst vars args).pos),A6 s.pos]
abbrev sgO(s:A4)(vars:List A3)(args:List Ty):SV:=.agg (sgC s vars args (.acc 900) (.acc 901))
abbrev sgB(s:A4)(vars:List A3)(args:List Ty):Ac:=[(900,.rows 5 (Ai (s.A1.map (Aj.subst vars args)))),(901,.rows 5 (Aw (s.params.map (Param.subst vars args))))]
def ua(l:List Aj)(vars:List A3)(args:List Ty)(j:Nat)(d:Aj):Ai ((l.take j++[d]).map (Aj.subst vars args))=Ai ((l.take j).map (Aj.subst vars args))++[Iz (d.subst vars args)]:=by simp[Ai]
def jY(l:List Param)(vars:List A3)(args:List Ty)(j:Nat)(d:Param):Aw ((l.take j++[d]).map (Param.subst vars args))=Aw ((l.take j).map (Param.subst vars args))++[G9 (d.subst vars args)]:=by simp[Aw]
abbrev Uh:=[0,1,2,4,5,7,9,20,21,22,23,42,43,44,45,900,901]
abbrev ix:Ji:=⟨[],[],[5],[5]⟩
def H4p(vars:List A3)(args:List Ty)(V:∀u,u∈args->u.Sm)(s:A4)(h:s.Sm):Ci prog 241 [Db s,.Bi 242 (fQ vars args)] [] (sgO s vars args) (sgB s vars args):=by
 have J:∀t:Ty,t.Sm->Ab prog 242 (Ba t::fQ vars args) (Ba (t.subst vars args)):=λt ht=>G1p vars args V t ht;have U:=h.A1.1;have Z:=h.params.1;refine bB func241 ?_;refine sR Uh ?_;refine sG Uh [] 10 [ix,ix,ix,ix,ix,ix,ix,ix,ix,⟨[5],[5],[],[]⟩] λK z=>?_;refine ev ?_;refine cc (J s.result h.result) ?_;apply z;refine rA 900 5 5 1 rfl rfl (by decide)<|kR Uh λO u1=>?_;refine bA (A0.ii s.A1 (X:=Unit) (λj _=>[(1,.Bi 242 (fQ vars args)),(2,.box 2 0),(4,.box 4 0),(5,.box 5 0),(20,.d (.slice (Ai s.A1))),(21,A6 s.A1.length),(22,A6 j)]) (λj _=>[(2,.cells (Q3 s)),(4,.cells Rc),(5,.cells (sgC s vars args (.acc 900) (.d .nil))),(900,.rows 5 (Ai ((s.A1.take j).map (Aj.subst vars args))))]) (λj _=>True) () trivial sS (by simp[ble,A9,Ai]) ?_ ?_)
 .intro _ _;rw[Ca];refine Ak B1 Uh ?_;refine A0.stop rfl ?_;simp only[Aa,Af,Av];apply u1;refine rA 901 5 5 2 rfl rfl (by decide)<|kR Uh λO u1=>?_;refine bA (A0.ii s.params (X:=Unit) (λj _=>[(1,.Bi 242 (fQ vars args)),(2,.box 2 0),(4,.box 4 0),(5,.box 5 0),(42,.d (.slice (Aw s.params))),(43,A6 s.params.length),(44,A6 j)]) (λj _=>[(2,.cells (Q3 s)),(4,.cells Rc),(5,.cells (sgC s vars args (.acc 900) (.acc 901))),(900,.rows 5 (Ai (s.A1.map (Aj.subst vars args)))),(901,.rows 5 (Aw ((s.params.take j).map (Param.subst vars args))))]) (λj _=>True) () trivial sS (by simp[ble,A9,Aw]) ?_ ?_)
  intro _ _;rw[Ca];refine Ak B1 Uh ?_;refine A0.stop rfl ?_;simp only[Aa,Af,Av];refine u1 _ _<|sR Uh ?_;exact A0.ret ⟨_,by rw[results241];rfl,.inl rfl,by simp[ble,A9]⟩
  .intro j _ d hd E W tk I _;rw[tk,jY];refine Ak I Uh ?_;refine kA rfl<|sK λL u2=>bA<|sI (Dt hd) [0,1,2,4,5,7,9,20,21,22,23,42,43,44,45,900,901] ?_
   (refine lG Uh [] 12 [] λK z=>?_;refine ev ?_;refine cc (J d.type (h.params.2 d E).type) ?_;refine⟨by simp,by simp only[B7,Dh];unfold lim sm at*;omega,?_⟩;(try refine ev ?_);apply z;try simp only[Aa,Af]);apply u2;refine lT Uh ?_;exact⟨(),trivial,sS,by simp[ble,A9,G9,Param.subst]⟩
 .intro j _ d hd E W tk I _;rw[tk,ua];refine Ak I Uh ?_;refine kA rfl<|sK λL u2=>bA<|sI (Fm hd) [0,1,2,4,5,7,9,20,21,22,23,42,43,44,45,900,901] ?_
  (refine lG Uh [] 12 [] λK z=>?_;refine ev ?_;refine cc (J d.bound (h.A1.2 d E).bound) ?_;refine⟨by simp,by simp only[B7,Dh];unfold lim sm at*;omega,?_⟩;(try refine ev ?_);apply z;try simp only[Aa,Af]);apply u2;refine lT Uh ?_;exact⟨(),trivial,sS,by simp[ble,A9,Iz,Aj.subst]⟩
def CX(vars:List A3)(args:List Ty)(E:∀u,u∈args->u.Sm)(s:A4)(h:s.Sm):Ci prog 163 [Db s,Cm vars,Cv args] [] (sgO s vars args) (sgB s vars args):=by
 have I:=H4p vars args E s h;refine bB func163 ?_;refine sR [0,1,2,3,4,5,6,900,901] ?_;refine gA 4 rfl rfl<|gA 5 rfl rfl<|A0.ww (sl':=[(3,.box 3 0),(4,.A8 [.slice (Bq vars)] 0),(5,.A8 [.slice (Au args)] 0),(6,.box 6 0)]) (bx':=[(3,.cells (Q3 s)),(6,.cells Rc)])
  (by simp[Ms,SV.sub,nA,sle,B0,Ae]) (by simp[Kz,Ax.sub,nA,SV.sub,ble,A9,Cu]) ?_
 refine jA [0,1,2,3,4,5,6,900,901] [800009] (by decide +kernel) λK z=>?_;refine ev ?_;refine⟨_,_,_,SU 900 901 rfl rfl I rfl (by decide) (by decide) (by decide) (by decide) rfl rfl,?_⟩;simp only[SV.Fi,qA,two,Av,Nat.reduceEqDiff,Gi];(try refine ev ?_);apply z;exact A0.ret ⟨_,by rw[results163];rfl,.inl rfl,by simp[ble,A9]⟩
def VU(vars:List A3)(args:List Ty)(E:∀u,u∈args->u.Sm)(s:A4)(h:s.Sm):Ab prog 163 [Db s,Cm vars,Cv args] (Db (s.subst vars args)) :=(CX vars args E s h).NO rfl rfl
abbrev Rw:=[0,1,2,3,6,7,8,9,10,11,26,50,900,901]
abbrev iy:Ji:=⟨[],[],[7],[7]⟩
def rl(vars:List A3)(args:List Ty)(L:∀u,u∈args->u.Sm)(s:A4)(h:s.Sm):Ci prog 197 [Db s,Cm vars,Cv args] [] (sgO s vars args) (sgB s vars args):=by
 have U:=h.A1.1;have W:=h.params.1;refine bB func197 ?_;refine sR Rw ?_;refine sG Rw [] 11 [iy,iy,iy,iy,iy,iy,iy,iy,iy,iy,⟨[7],[7],[],[]⟩] λK z=>?_;refine ev ?_;refine cc (Qw vars args L s.result h.result) ?_;apply z;refine rA 900 5 7 1 rfl rfl (by decide)<|kR Rw λO u1=>?_;refine bA (A0.ii s.A1 (X:=Unit) (λj _=>[(1,Cm vars),(2,Cv args),(3,.box 3 0),(6,.box 6 0),(7,.box 7 0),(8,A6 j)]) (λj _=>[(3,.cells (Q3 s)),(6,.cells Rc),(7,.cells (sgC s vars args (.acc 900) (.d .nil))),(900,.rows 5 (Ai ((s.A1.take j).map (Aj.subst vars args))))]) (λj _=>True) () trivial sS (by simp[ble,A9,Ai]) ?_ ?_)
 .intro _ _;rw[Ca];refine Ag B1 Rw λI u2=>?_;refine sE ?_;apply u1;refine rA 901 5 7 2 rfl rfl (by decide)<|kR Rw λO u1=>?_;refine bA (A0.ii s.params (X:=Unit) (λj _=>[(1,Cm vars),(2,Cv args),(3,.box 3 0),(6,.box 6 0),(7,.box 7 0),(10,A6 j)]) (λj _=>[(3,.cells (Q3 s)),(6,.cells Rc),(7,.cells (sgC s vars args (.acc 900) (.acc 901))),(900,.rows 5 (Ai (s.A1.map (Aj.subst vars args)))),(901,.rows 5 (Aw ((s.params.take j).map (Param.subst vars args))))]) (λj _=>True) () trivial sS (by simp[ble,A9,Aw]) ?_ ?_)
  intro _ _;rw[Ca];refine Ag B1 Rw λI u2=>?_;refine sE ?_;refine u1 _ _<|sR Rw ?_;exact A0.ret ⟨_,by rw[results197];rfl,.inl rfl,by simp[ble,A9]⟩
  .intro j _ d hd E V tk J _;rw[tk,jY];refine Ag J Rw λI u2=>?_;refine gI u2 ?_;refine sK λI u2=>bA<|sI (Dt hd) [0,1,2,3,6,7,8,9,10,11,26,50,900,901] ?_;refine sC (Qw vars args L d.type (h.params.2 d E).type) Rw ?_
   (refine lV Rw λK z=>?_;refine⟨by simp,by simp only[B7,Dh];unfold lim sm at*;omega,?_⟩;(try refine ev ?_);apply z;try simp only[Aa,Af]);apply u2;refine lT Rw ?_;exact⟨(),trivial,sS,by simp[ble,A9,G9,Param.subst]⟩
 .intro j _ d hd E V tk J _;rw[tk,ua];refine Ag J Rw λI u2=>?_;refine gI u2 ?_;refine sK λI u2=>bA<|sI (Fm hd) [0,1,2,3,6,7,8,9,10,11,26,50,900,901] ?_;refine sC (Qw vars args L d.bound (h.A1.2 d E).bound) Rw ?_
  (refine lV Rw λK z=>?_;refine⟨by simp,by simp only[B7,Dh];unfold lim sm at*;omega,?_⟩;(try refine ev ?_);apply z;try simp only[Aa,Af]);apply u2;refine lT Rw ?_;exact⟨(),trivial,sS,by simp[ble,A9,Iz,Aj.subst]⟩
def mi(vars:List A3)(args:List Ty)(E:∀u,u∈args->u.Sm)(s:A4)(h:s.Sm):Ab prog 197 [Db s,Cm vars,Cv args] (Db (s.subst vars args)) :=(rl vars args E s h).NO rfl rfl
def Vu(i:Nat):Ty:=.mk (En i) [] 0
def Dv(n:Nat):List Ty:=(List.range n).map Vu
def jh(j:Nat):Au (Dv (j+1))=Au (Dv j)++[[D.str (En j),.slice [],.int .i64 0]]:=by simp only[Dv,List.range_succ,Gy,Cq,Cj,G5,Vu,Bf,Ty.name,Ty.args,Ty.pos]
def G0k(i:Nat)(h:i<=sm):(Vu i).Sm:=.mk _ _ _ (Cy (qn i h) (by decide)) (by simp) (by simp)
def iW(n:Nat)(h:n<=sm):∀u,u∈Dv n->u.Sm:=λu I=>by obtain⟨i,E,rfl⟩:=Ap.1 I;exact G0k i (by have:=wJ.1 E;omega)
def Ad(l:List Aj):List A3:=l.map (·.name)
def I2(s:A4)(j:Nat):List Aj:=s.A1.mapIdx λi f=>⟨if i<j then En i else f.name,f.bound.subst (Ad s.A1) (Dv s.A1.length),f.pos⟩
def J0(s:A4)(j:Nat):List Param:=s.params.mapIdx λi p=>⟨if i<j then[]else p.name,p.type.subst (Ad s.A1) (Dv s.A1.length),p.pos⟩
def A4.canon(s:A4):A4:=⟨s.name,I2 s s.A1.length,J0 s s.params.length,s.result.subst (Ad s.A1) (Dv s.A1.length),s.pos⟩
theorem Yz(s:A4)(j:Nat):(I2 s j).length=s.A1.length:=by simp[I2]
def Yp(s:A4)(j:Nat):(J0 s j).length=s.params.length:=by simp[J0]
def LW(s:A4):I2 s 0=s.A1.map (Aj.subst (Ad s.A1) (Dv s.A1.length)):=by refine Kx λi=>?_;simp only[I2,Px,Df,Nat.not_lt_zero,Gi];rfl
def GX(s:A4):J0 s 0=s.params.map (Param.subst (Ad s.A1) (Dv s.A1.length)):=by refine Kx λi=>?_;simp only[J0,Px,Df,Nat.not_lt_zero,Gi];rfl
def VM{s:A4}{j:Nat}{d:Aj}(i:Nat)(h:s.A1[j]?=some d):(Ai (I2 s i))[j]?=some (Iz ⟨if j<i then En j else d.name,d.bound.subst (Ad s.A1) (Dv s.A1.length),d.pos⟩):=by simp only[Ai,I2,Df,Px,h,Em]
def UM{s:A4}{j:Nat}{d:Param}(i:Nat)(h:s.params[j]?=some d):(Aw (J0 s i))[j]?=some (G9 ⟨if j<i then[]else d.name,d.type.subst (Ad s.A1) (Dv s.A1.length),d.pos⟩):=by simp only[Aw,J0,Df,Px,h,Em]
def xi{s:A4}{j:Nat}{d:Aj}(h:s.A1[j]?=some d):(Ai (I2 s j)).set j (Iz ⟨En j,d.bound.subst (Ad s.A1) (Dv s.A1.length),d.pos⟩)=Ai (I2 s (j+1)):=by
 refine Kx λi=>?_;rw[BJ];split;rename_i E;subst E;rw[A7 (by rw[Ai,B7,Yz];exact(Az.1 h).1),VM _ h,A7 (by omega)]
 .rename_i E;cases I:s.A1[i]? with
  |none=>simp[Ai,I2,I]
  |some e =>
   rw[VM _ I,VM _ I];by_cases J:i<j;rw[A7 J,A7 (by omega)];rw[A5 J,A5 (by omega)]
def ma{s:A4}{j:Nat}{d:Param}(h:s.params[j]?=some d):(Aw (J0 s j)).set j (G9 ⟨[],d.type.subst (Ad s.A1) (Dv s.A1.length),d.pos⟩)=Aw (J0 s (j+1)):=by
 refine Kx λi=>?_;rw[BJ];split;rename_i E;subst E;rw[A7 (by rw[Aw,B7,Yp];exact(Az.1 h).1),UM _ h,A7 (by omega)]
 .rename_i E;cases I:s.params[i]? with
  |none=>simp[Aw,J0,I]
  |some e =>
   rw[UM _ I,UM _ I];by_cases J:i<j;rw[A7 J,A7 (by omega)];rw[A5 J,A5 (by omega)]
abbrev cgC(s:A4):List SV:=sgC s (Ad s.A1) (Dv s.A1.length) (.acc 900) (.acc 901)
abbrev M3:=[0,1,2,3,4,5,6,7,10,11,12,29,30,31,43,44,45,900,901]
def H2n(s:A4)(h:s.Sm):Ci prog 164 [Db s] [] (.agg (cgC s)) [(900,.rows 5 (Ai (I2 s s.A1.length))),(901,.rows 5 (Aw (J0 s s.params.length)))]:=by
 have L:=h.A1.1;have W:=h.params.1;have J:=CX (Ad s.A1) (Dv s.A1.length) (iW _ L) s h;rw[sgB,<-LW,<-GX]at J;refine bB func164 ?_;refine sR M3 ?_;refine sR M3 ?_;refine A0.pp 3 3 3 rfl<|kR M3 λU u1=>?_;refine bA (A0.ii s.A1 (X:=Unit) (λj _=>[(1,.box 1 0),(2,.box 2 0),(3,.acc 3),(10,A6 s.A1.length),(11,A6 j)]) (λj _=>[(1,.cells (Q3 s)),(2,.cells Rc),(3,.rows 3 (Au (Dv j)))]) (λj _=>True) () trivial sS (by simp[ble,A9,Dv,Cq]) ?_ ?_)
 .intro _ _;refine Ak B1 M3 ?_;refine A0.stop rfl ?_;simp only[Aa,Af,Av];apply u1;refine A0.Km 3 rfl<|A0.ww (sl':=[(1,.box 1 0),(2,.box 2 0),(3,Cv (Dv s.A1.length))]) (bx':=[(1,.cells (Q3 s)),(2,.cells Rc)]) (by simp[Ms,SV.sub,sle,B0,Ae]) (by simp[Kz,Ax.sub,nA,SV.sub,ble,A9,Cu]) ?_
  refine sG M3 [800026] 7 gq λK z=>?_;refine ev ?_;refine cc (fK s.A1 L) ?_;refine⟨_,_,_,SU 900 901 rfl rfl J rfl (by decide) (by decide) (by decide) (by decide) rfl rfl,?_⟩;(try simp -implicitDefEqProofs only[EV,D8,Nat.reduceAdd,Nat.reduceEqDiff,Nat.reduceBEq,Nat.reduceLeDiff,reduceCtorEq,SV.Fi,qA,two]);apply z
  refine A0.ww (sl':=[(2,.box 2 0),(5,.box 5 0)]) (bx':=[(2,.cells Rc),(5,.cells (cgC s)),(900,.rows 5 (Ai (I2 s 0))),(901,.rows 5 (Aw (J0 s 0)))])
   sS sB ?_
  refine kR M3 λU u1=>?_;refine bA (A0.ii s.A1 (X:=Unit) (λj _=>[(2,.box 2 0),(5,.box 5 0),(29,A6 s.A1.length),(30,A6 j)]) (λj _=>[(2,.cells Rc),(5,.cells (cgC s)),(900,.rows 5 (Ai (I2 s j))),(901,.rows 5 (Aw (J0 s 0)))]) (λj _=>True) () trivial (by simp[sle,B0,Ae,Yz]) sB ?_ ?_)
  .intro _ _;refine Ak B1 M3 ?_;refine A0.stop rfl ?_;simp only[Aa,Af,Av];apply u1;refine kR M3 λU u1=>?_;refine bA (A0.ii s.params (X:=Unit) (λj _=>[(2,.box 2 0),(5,.box 5 0),(43,A6 s.params.length),(44,A6 j)]) (λj _=>[(2,.cells Rc),(5,.cells (cgC s)),(900,.rows 5 (Ai (I2 s s.A1.length))),(901,.rows 5 (Aw (J0 s j)))]) (λj _=>True) () trivial (by simp[sle,B0,Ae,Yp]) sB ?_ ?_);intro _ _;refine Ak B1 M3 ?_;refine A0.stop rfl ?_;simp only[Aa,Af,Av];refine u1 _ _<|sR M3 ?_;exact A0.ret ⟨_,by rw[results164];rfl,.inl rfl,by simp[ble,A9]⟩
   .intro j _ d hd I V tk E _;refine Ak E M3 ?_;refine kA rfl<|sK λO u2=>bA<|sR M3 ?_
    (refine lV M3 λK z=>?_;refine⟨by omega,by rw[Yp];omega,?_⟩;(try refine ev ?_);refine⟨_,[D.str []],UM j hd,rfl,by simp[G9],?_⟩;(try refine ev ?_);apply z;try simp only[Aa,Af]);apply u2;refine lT M3 ?_;exact⟨(),trivial,sS,by simp[ble,A9,<-ma hd,G9]⟩
  .intro j _ d hd I V tk E _;refine Ak E M3 ?_;refine kA rfl<|sK λO u2=>bA<|sR M3 ?_
   (refine lG M3 [] 5 [] λK z=>?_;refine ev ?_;refine cc (vg j (by omega)) ?_;refine⟨by omega,by rw[Yz];omega,?_⟩;(try refine ev ?_);refine⟨_,[D.str (En j)],VM j hd,rfl,by simp[Iz],?_⟩;(try refine ev ?_);apply z;try simp only[Aa,Af]);apply u2;refine lT M3 ?_;exact⟨(),trivial,sS,by simp[ble,A9,<-xi hd,Iz]⟩
 .intro j _ d hd I V tk E _;rw[jh];refine Ak E M3 ?_;refine kA rfl<|sK λO u2=>bA<|sR M3 ?_
  (refine lV M3 λK z=>?_;refine cc (vg j (by omega)) ?_;refine⟨by simp,by simp only[Dv,B7,List.length_range];unfold lim sm at*;omega,?_⟩;(try refine ev ?_);apply z;try simp only[Aa,Af]);apply u2;refine lT M3 ?_;refine⟨(),trivial,sS,?_⟩;simp[ble,A9]
def wP(s:A4)(h:s.Sm):Ab prog 164 [Db s] (Db s.canon):=(H2n s h).NO rfl rfl
def G5c{n j:Nat}(h:j<n):(Au (Dv n))[j]?=some (Bf (Vu j)):=by simp[Dv,Cq,HG h]
abbrev No:=[0,1,2,3,4,5,6,7,12,31,48,900,901]
def H0y(s:A4)(h:s.Sm):Ci prog 198 [Db s] [] (.agg (cgC s)) [(900,.rows 5 (Ai (I2 s s.A1.length))),(901,.rows 5 (Aw (J0 s s.params.length)))]:=by
 have O:=h.A1.1;have W:=h.params.1;have L:=rl (Ad s.A1) (Dv s.A1.length) (iW _ O) s h;rw[sgB,<-LW,<-GX]at L;refine bB func198 ?_;refine sR No ?_;refine sR No ?_;refine A0.pp 3 3 3 rfl<|kR No λU u1=>?_;refine bA (A0.ii s.A1 (X:=Unit) (λj _=>[(1,.box 1 0),(2,.box 2 0),(3,.acc 3),(4,A6 j)]) (λj _=>[(1,.cells (Q3 s)),(2,.cells Rc),(3,.rows 3 (Au (Dv j)))]) (λj _=>True) () trivial sS (by simp[ble,A9,Dv,Cq]) ?_ ?_)
 .intro _ _;refine Ag B1 No λE u2=>?_;refine sE ?_;apply u1;refine A0.Km 3 rfl<|A0.ww (sl':=[(1,.box 1 0),(2,.box 2 0),(3,Cv (Dv s.A1.length))]) (bx':=[(1,.cells (Q3 s)),(2,.cells Rc)]) (by simp[Ms,SV.sub,sle,B0,Ae]) (by simp[Kz,Ax.sub,nA,SV.sub,ble,A9,Cu]) ?_
  refine sG No [800026] 7 gq λK z=>?_;refine ev ?_;refine cc (Ss s.A1 O) ?_;refine⟨_,_,_,SU 900 901 rfl rfl L rfl (by decide) (by decide) (by decide) (by decide) rfl rfl,?_⟩;(try simp -implicitDefEqProofs only[EV,D8,Nat.reduceAdd,Nat.reduceEqDiff,Nat.reduceBEq,Nat.reduceLeDiff,reduceCtorEq,SV.Fi,qA,two]);apply z
  refine A0.ww (sl':=[(2,.box 2 0),(3,Cv (Dv s.A1.length)),(5,.box 5 0)]) (bx':=[(2,.cells Rc),(5,.cells (cgC s)),(900,.rows 5 (Ai (I2 s 0))),(901,.rows 5 (Aw (J0 s 0)))])
   sS sB ?_
  refine kR No λU u1=>?_;refine bA (A0.ii s.A1 (X:=Unit) (λj _=>[(2,.box 2 0),(3,Cv (Dv s.A1.length)),(5,.box 5 0),(6,A6 j)]) (λj _=>[(2,.cells Rc),(5,.cells (cgC s)),(900,.rows 5 (Ai (I2 s j))),(901,.rows 5 (Aw (J0 s 0)))]) (λj _=>True) () trivial sS sB ?_ ?_)
  .intro _ _;refine Dq @Yz B1 No λE u2=>?_;refine sE ?_;apply u1;refine kR No λU u1=>?_;refine bA (A0.ii s.params (X:=Unit) (λj _=>[(2,.box 2 0),(5,.box 5 0),(7,A6 j)]) (λj _=>[(2,.cells Rc),(5,.cells (cgC s)),(900,.rows 5 (Ai (I2 s s.A1.length))),(901,.rows 5 (Aw (J0 s j)))]) (λj _=>True) () trivial sS sB ?_ ?_);intro _ _;refine Dq @Yp B1 No λE u2=>?_;refine sE ?_;refine u1 _ _<|sR No ?_;exact A0.ret ⟨_,by rw[results198];rfl,.inl rfl,by simp[ble,A9]⟩
   intro j _ d hd J V tk I _;refine Dq @Yp I No λE u2=>?_;refine gI u2 ?_;refine sK λE u2=>bA ?_;(refine lV No λK z=>?_;refine⟨by omega,by rw[Yp];omega,?_⟩;(try refine ev ?_);refine⟨_,[D.str []],UM j hd,rfl,by simp[G9],?_⟩;(try refine ev ?_);apply z;try simp only[Aa,Af]);apply u2;refine lT No ?_;exact⟨(),trivial,sS,by simp[ble,A9,<-ma hd,G9]⟩
  intro j _ d hd J V tk I _;refine Dq @Yz I No λE u2=>?_;refine gI u2 ?_;refine sK λE u2=>bA ?_;(refine lG No [] 8 [] λK z=>?_;refine ev ?_;refine⟨by omega,_,G5c (by omega),rfl,?_⟩;(try refine ev ?_);refine⟨by omega,by rw[Yz];omega,?_⟩;(try refine ev ?_);refine⟨_,[D.str (En j)],VM j hd,rfl,by simp[Iz],?_⟩;(try refine ev ?_);apply z;try simp only[Aa,Af]);apply u2;refine lT No ?_;exact⟨(),trivial,sS,by simp[ble,A9,<-xi hd,Iz]⟩
 intro j _ d hd J V tk I _;rw[jh];refine Ag I No λE u2=>?_;refine gI u2 ?_;refine sK λE u2=>bA ?_;(refine lV No λK z=>?_;refine cc (o6 j (by omega)) ?_;refine⟨by simp,by simp only[Dv,B7,List.length_range];unfold lim sm at*;omega,?_⟩;(try refine ev ?_);apply z;try simp only[Aa,Af]);apply u2;refine lT No ?_;exact⟨(),trivial,sS,by simp[ble,A9]⟩
def ZK(s:A4)(h:s.Sm):Ab prog 198 [Db s] (Db s.canon):=(H0y s h).NO rfl rfl
end Go.iA
