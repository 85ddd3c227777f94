/- expr.All, visit: the nodes of an expression in order, for a range over a function; expr.Value; step.first -/
import Derived.Test.YtieakoebgfiniaaGreatDoorZS18
set_option linter.all false
set_option maxHeartbeats 1000000
set_option maxRecDepth 100000
namespace Go.Abs
open Go Go.Proofs Tryz
structure Fits(Y:Gx)(j:Nat)(l:List Ex):Prop where
 P:Y.P=prog
 N:j+l.length<=Y.N
 at_:∀i e,l[i]?=some e->Y.xs (j+i)=D3 e/\Y.go (j+i)=decide (e.kind=3)
theorem Fits.left{Y:Gx}{j:Nat}{l m:List Ex}(h:Fits Y j (l++m)):Fits Y j l where
 P:=h.P
 N:=by have:=h.N;rw[B6]at this;omega
 at_:=λi e E=>h.at_ i e (by rw[L4 (Az.1 E).1];exact E)
def Fits.right{Y:Gx}{j:Nat}{l m:List Ex}(h:Fits Y j (l++m)):Fits Y (j+l.length) m where
 P:=h.P
 N:=by have:=h.N;rw[B6]at this;omega
 at_:=λi e E=>by have:=h.at_ (l.length+i) e (by rw[Kd (by omega)];simpa using E);rw[Si];exact this
def D2d{vars:List A2}{args:List Ty}(O:∀u,u∈args->u.Sm):∀t:Ty,t.Sm->(t.subst vars args).Sm:=by
 intro t
 induction t using Ty.induct with
 |h t L =>
 intro h;rw[Wo];split
 .rename_i U;have E:(D5 t.name vars 0).toNat<args.length:=by omega
  rw[Bi E,Dz];have:=O _ (Fq E);exact .mk _ _ _ this.name this.len this.arg
 .refine .mk _ _ _ h.name (by rw[Bc];exact h.len) λu J=>?_;obtain⟨x,I,rfl⟩:=Au.1 J;exact L x I (h.arg x I)
def Ex.Sm.subst{vars:List A2}{args:List Ty}(J:∀u,u∈args->u.Sm)(e:Ex):e.Sm->(e.subst vars args).Sm:=by
 induction e using Ex.induct with
 |h e L =>
 intro h;unfold Ex.subst;rw[A1e];refine .mk _ _ _ _ _ _ h.name (D2d J _ h.type) ?_ ?_ ?_ ?_
 .show(e.targs.map (Ty.subst vars args)).length<=sm;rw[Bc];exact h.targs.1
 .intro t ht;have ht:t∈e.targs.map (Ty.subst vars args):=ht;obtain⟨u,E,rfl⟩:=Au.1 ht;exact D2d J _ (h.targs.2 u E)
 .show(e.kids.map _).length<=sm;rw[Bc];exact h.kids.1
 .intro k I;have I:k∈e.kids.map (Ex.mapped (Ex.A1v vars args)):=I;obtain⟨u,E,rfl⟩:=Au.1 I;exact L u E (h.kids.2 u E)
def B2u(vars:List A2)(E:List Ex)(e:Ex):Ex:=if e.kind=1/\0<=D5 e.name vars 0/\D5 e.name vars 0<E.length then(E[(D5 e.name vars 0).toNat]?).getD e else e
def Ex.Rv(vars:List A2)(E:List Ex):Ex->Ex:=Ex.mapped (B2u vars E)
abbrev q1J:List Nat:=[0,1,2,3,6,7,8,30,67]
def E5r(vars:List A2)(args:List Ty)(U:∀u,u∈args->u.Sm)(e:Ex):e.Sm->Aa prog 73 [D3 e,Cc vars,Cm args] (D3 (e.subst vars args)):=by
 induction e using Ex.induct with
 |h e W =>
 intro E;have a0:=E.kids.1;have V:=Pm vars args U e.type E.type;have Z:=F3w vars args U e.targs E.targs.1 E.targs.2;have J:e.subst vars args=.mk e.kind e.name (e.type.subst vars args) (e.targs.map (Ty.subst vars args)) (e.kids.map (Ex.subst vars args)) e.pos:=by unfold Ex.subst;rw[A1e];rfl
 rw[J];generalize e.type.subst vars args=T at*;generalize e.targs.map (Ty.subst vars args)=A at*;refine cB func73 ?_;refine sR q1J ?_
 (refine sG q1J [] 18 [⟨[],[],[7],[7]⟩,⟨[],[],[7],[7]⟩,⟨[],[],[7],[7]⟩,⟨[],[],[7],[7]⟩,⟨[],[],[7],[7]⟩,⟨[],[],[7],[7]⟩,⟨[],[],[7],[7]⟩,⟨[],[],[7],[7]⟩,⟨[],[],[7],[7]⟩,⟨[],[],[7],[7]⟩,⟨[],[],[7],[7]⟩,⟨[],[],[7],[7]⟩,⟨[],[],[7],[7]⟩,⟨[],[],[7],[7]⟩,⟨[],[],[7],[7]⟩,⟨[],[],[7],[7]⟩,⟨[],[],[7],[7]⟩,⟨[7],[7],[],[]⟩] λK z=>?_;refine ev ?_;refine cc V ?_;refine cc Z ?_;apply z;clear z K)
 refine A0.Rb 67 8 7 6 rfl rfl (by decide)<|kR q1J λK1 u1=>?_;refine A0.bb (A0.ii e.kids (X:=Unit) (λj _=>[(1,Cc vars),(2,Cm args),(3,.box 3 0),(6,.box 6 0),(7,.box 7 0),(8,A5 j)])
  (λj _=>[(3,.cells (exS e)),(6,.cells [.d (.int .i64 0),.d (.str []),.d (.str []),.d .nil,.d (.int .i64 0),.d .nil,.d .nil,.d (.int .i64 0)]),(7,.cells [.d (.int .i64 e.kind),.d (.str e.name),.d (.str T.name),.d (.slice (Ax T.args)),.d (.int .i64 T.pos),.d (.slice (Ax A)),.acc 67,.d (.int .i64 e.pos)]),(67,.rows 8 (Eb ((e.kids.take j).map (Ex.subst vars args))))])
  (λj _=>True) () trivial sS (by simp[ble,A7,Pt,exS]) ?_ ?_)
 .intro _ _;rw[Ci];refine Ai B3 q1J λL u2=>?_;refine A0.ss rfl ?_;simp only[A4,Ac,Af];refine u1 _ _<|sR q1J ?_;exact aR
 .intro j _ d hd I dp tk O _;rw[tk];refine Ai O q1J λL u2=>?_;refine gI u2 ?_;clear u2 L;refine sK λL u2=>A0.bb ?_
  (refine lG q1J [] 11 [] λK z=>?_;refine ev ?_;refine ci (G8 hd) ?_;refine cc (W d I (E.kids.2 d I)) ?_;refine⟨by simp,by simp only[Bc,D4];unfold lim sm at*;omega,?_⟩;(try refine ev ?_);apply z;clear z K;try simp only[A4,Ac])
  refine u2 _ _ ?_;clear u2 L;refine lT q1J ?_;exact⟨(),trivial,sS,by simp[ble,A7,Pt,Cg,exS]⟩
def fieldsD(d:Decl)(x:Ty):List Param:=d.fields.map (Param.subst (Ad d.A1) x.args)
def Bx(p:Prog)(x:Ty):List Param:=if Bh p x 1=true then fieldsD ((F7 p x.name).getD default) x else[]
abbrev R0:List Nat:=[0,1,3,4,5,6,7,8,10,18,20,21,22,23]
def F5s(p:Prog)(h:p.Sm)(x:Ty)(Z:x.Sm):Aa prog 318 [.A9 (Dh p) 0,B7 x] (.tuple [.d (.slice (Av (Bx p x))),Aw (Bh p x 1)]):=by
 have I:=C1h p h x 1 (by decide);unfold Bx;rcases Eu (Bh p x 1)with hi|hi
 .obtain⟨E,J,_⟩:=Mm (by decide) hi;rw[hi,A8 rfl];rw[J,Dz,hi]at I;rw[J,Dz];have L:=h.decls.2 E (P9 J);have a0:=L.fields.1;have hn:=C1a E.A1 L.A1.1;unfold fieldsD;refine cB func318 ?_;refine sR R0 ?_;refine sC I R0 ?_;refine kR R0 λW u1=>?_;refine kI u1 ?_;clear u1 W;refine sR R0 ?_;refine A0.pp 8 5 8 rfl<|kR R0 λW u1=>?_;refine A0.bb (A0.ii E.fields (X:=Unit) (λj _=>[(3,.box 3 0),(6,.box 6 0),(8,.acc 8),(20,.d (.slice (Av E.fields))),(21,A5 E.fields.length),(22,A5 j)])
   (λj _=>[(3,.cells [.d (.str x.name),Cm x.args,A5 x.pos]),(6,.cells ((Ar E).map .d)),(8,.rows 5 (Av ((E.fields.take j).map (Param.subst (Ad E.A1) x.args))))])
   (λj _=>True) () trivial sS (by simp[ble,A7,Av,Ar]) ?_ ?_)
  .intro _ _;rw[Ci];refine Ak B3 R0 ?_;refine A0.stop rfl ?_;simp only[A4,Ac,Af];refine u1 _ _<|sR R0 ?_;exact aR
  .intro j _ d hd U dp tk V _;rw[tk];have O:=B7h (Ad E.A1) x.args Z.arg d.type (L.fields.2 d U).type;refine Ak V R0 ?_;refine A0.Er rfl<|sK λK2 u2=>A0.bb ?_
   (refine sV R0 λK z=>?_;refine ci (Du hd) ?_;apply z;clear z K)
   (refine lG R0 [] 15 [] λK z=>?_;refine ev ?_;refine cc hn ?_;refine cc O ?_;refine⟨by simp,by simp only[Bc,D4];unfold lim sm at*;omega,?_⟩;(try refine ev ?_);apply z;clear z K;try simp only[A4,Ac])
   refine u2 _ _ ?_;clear u2 K2;refine lT R0 ?_;exact⟨(),trivial,sS,by simp[ble,A7,Av,Ar,G9,Param.subst]⟩
 .rw[hi]at I |-;rw[A6 (by decide)];generalize(F7 p x.name).getD default=E at*;refine cB func318 ?_;refine sR R0 ?_;refine sC I R0 ?_;refine kR R0 λW u1=>?_;refine tI ?_;refine sR R0 ?_;exact aR
def Qa(E:List (List Ty)):List (List D):=E.map λl=>[.slice (Ax l)]
def B7e{E:List (List Ty)}{j:Nat}{l:List Ty}(h:E[j]?=some l):(Qa E)[j]?=some [.slice (Ax l)]:=by simp[Qa,h]
abbrev Ny:List Nat:=[0,2,3,5,6,8,9,10,11,12,20,24,25,26,27,28]
def D2r(E:List (List Ty))(hl:E.length<=sm)(hn:(E.map List.length).sum<=2*sm):Aa prog 104 [.d (.slice (Qa E))] (.d (.slice (Ax E.flatten))):=by
 refine cB func104 ?_;refine sR Ny ?_;refine sR Ny ?_;refine kR Ny λO u1=>?_;refine A0.bb (A0.ii E (X:=Unit) (λj _=>[(0,.d (.slice (Qa E))),(3,A5 (((E.take j).map List.length).sum:Nat)),(9,.d (.slice (Qa E))),(10,A5 E.length),(11,A5 j)]) (λ_ _=>[])
  (λj _=>True) () trivial (by simp[sle,Ay,Ae,Qa]) sB ?_ ?_)
 .intro _ _;rw[Ci];refine Ak B3 Ny ?_;refine A0.stop rfl ?_;simp only[A4,Ac,Af];refine u1 _ _ ?_;clear u1 O
  (refine A0.D7 Ny [800024] (by decide +kernel) λK z=>?_;refine ev ?_;refine⟨_,_,_,B7n 24 rfl rfl rfl (E3d _ (by unfold sm at hn;omega)) rfl (by decide) rfl,?_⟩;simp only[SV.Ek,A8c,Af];(try refine ev ?_);apply z;clear z K)
  refine kR Ny λO u1=>?_;refine A0.bb (A0.ii E (X:=Unit) (λj _=>[(6,.acc 24),(25,.d (.slice (Qa E))),(26,A5 E.length),(27,A5 j)]) (λj _=>[(24,.rows 3 (Ax (E.take j).flatten))])
   (λj _=>True) () trivial (by simp[sle,Ay,Ae,Qa]) (by simp[ble,A7,Dj]) ?_ ?_)
  .intro _ _;rw[Ci];refine Ak B3 Ny ?_;refine A0.stop rfl ?_;simp only[A4,Ac,Af];refine u1 _ _ ?_;clear u1 O;refine sR Ny ?_;exact aR
  .intro j _ d hd L W tk J Z;have I:=A9t E (j+1);rw[tk,G0,Y7]at I;simp only[Ck,G3,J5,List.sum_nil,Ma]at I;rw[tk,List.flatten_append,Ao6,List.flatten_nil,Fj];refine Ak J Ny ?_;refine A0.Er rfl<|sK λU u2=>A0.bb ?_
   (refine sV Ny λK z=>?_;refine ci (B7e hd) ?_;apply z;clear z K)
   (refine lV Ny λK z=>?_;refine⟨Wj _,by rw[List.length_flatten];unfold lim sm at*;omega,?_⟩;(try refine ev ?_);apply z;clear z K;try simp only[A4,Ac])
   refine u2 _ _ ?_;clear u2 U;refine lT Ny ?_;exact⟨(),trivial,sS,by simp[ble,A7,Dj]⟩
 .intro j _ d hd L W tk J Z;have I:=A9t E (j+1);rw[tk,G0,Y7]at I;simp only[Ck,G3,J5,List.sum_nil,Ma]at I;have V:¬(((((E.take j).map List.length).sum:Nat):Int)+(d.length:Int)<0):=by omega
  rw[tk,G0,Y7];simp only[Ck,G3,J5,List.sum_nil,Ma];refine Ak J Ny ?_;refine A0.Er rfl<|sK λU u2=>A0.bb ?_
  (refine sV Ny λK z=>?_;refine ci (B7e hd) ?_;apply z;clear z K)
  (refine sV Ny λK z=>?_;refine ca ?_;apply z;clear z K)
  refine Ak V Ny ?_;refine A0.ff rfl (A0.kk (u2 _ _ ?_));clear u2 U;refine lT Ny ?_;exact⟨(),trivial,sS,sB⟩
def Jr(p:Prog)(x:Ty)(m:A2):Option Decl:=if Bh p x 1=true then(match p.decls.find? (Fk x.name m)with
 |some d=>if d.vars.length=x.args.length then some d else none
 |none=>none)else none
def Uu:Ex:=.mk 0 [] (.mk [] [] 0) [] [] 0
def D1e:Uu.Sm:=.mk _ _ _ _ _ _ (by simp) (.mk _ _ _ (by simp) (by simp) (by simp)) (by simp) (by simp) (by simp) (by simp)
abbrev Vq:List Nat:=[0,1,2,3,4,5,6,7,8,21]
def B5x(p:Prog)(h:p.Sm)(x:Ty)(hx:x.Sm)(hi:Bh p x 1=true):Aa prog 61 [Ct p,B7 x] (.d (.slice (Av (Bx p x)))):=by
 obtain⟨I,E,_⟩:=Mm (by decide) hi;unfold Bx;rw[A8 hi,E,Dz];have J:=h.decls.2 I (P9 E);have a1:=J.fields.1;have hn:=R3 I.A1 J.A1.1;have O:=A9g p x.name;obtain⟨k,hk,Z⟩:∃k:Nat,p.decls[k]?=some I/\findD x.name p.decls 0=(k:Int):=by
  rcases B0n x.name p.decls 0 with⟨_,W⟩|⟨k,e,h1,W,h3⟩
  .have:F7 p x.name=none:=W;rw[E]at this;cases this
  .have:F7 p x.name=some e:=h3;rw[E]at this;obtain rfl:=X9 this;exact⟨k,h1,by rw[W];simp⟩
 rw[Z]at O;unfold fieldsD;refine cB func61 ?_;refine sR Vq ?_
 (refine sG Vq [] 9 gm λK z=>?_;refine ev ?_;refine cc O ?_;refine ci (Dx hk) ?_;apply z;clear z K)
 refine sR Vq ?_;refine A0.pp 6 5 6 rfl<|kR Vq λK1 u1=>?_;refine A0.bb (A0.ii I.fields (X:=Unit) (λj _=>[(3,.box 3 0),(5,.box 5 0),(6,.acc 6),(7,A5 j)])
  (λj _=>[(3,.cells [.d (.str x.name),Cm x.args,A5 x.pos]),(5,.cells ((Ar I).map .d)),(6,.rows 5 (Av ((I.fields.take j).map (Param.subst (Ad I.A1) x.args))))])
  (λj _=>True) () trivial sS (by simp[ble,A7,Av,Ar]) ?_ ?_)
 .intro _ _;rw[Ci];refine Ai B3 Vq λV u2=>?_;refine A0.ss rfl ?_;simp only[A4,Ac,Af];refine u1 _ _<|sR Vq ?_;exact aR
 .intro j _ d hd U dp tk a0 _;rw[tk];have L:=Pm (Ad I.A1) x.args hx.arg d.type (J.fields.2 d U).type;refine Ai a0 Vq λV u2=>?_;refine gI u2 ?_;clear u2 V;refine sK λV u2=>A0.bb ?_
  (refine sV Vq λK z=>?_;refine ci (Du hd) ?_;apply z;clear z K)
  (refine sG Vq [] 7 [] λK z=>?_;refine ev ?_;refine cc hn ?_;refine cc L ?_;apply z;clear z K)
  (refine lV Vq λK z=>?_;refine⟨by simp,by simp only[Bc,D4];unfold lim sm at*;omega,?_⟩;(try refine ev ?_);apply z;clear z K;try simp only[A4,Ac])
  refine u2 _ _ ?_;clear u2 V;refine lT Vq ?_;exact⟨(),trivial,sS,by simp[ble,A7,Av,Ar,G9,Param.subst]⟩
end Go.Abs
