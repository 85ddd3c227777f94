/- expr.All, visit: the nodes of an expression in order, for a range over a function; expr.Value; step.first -/
import Derived.Test.YtcmlfpcaeflleaaGreatDoorGS18
set_option linter.all false
set_option maxHeartbeats 1000000
set_option maxRecDepth 100000
namespace Go.Abs
open Go Go.Proofs Tryz
structure Fits(Y:Iw)(j:Nat)(l:List Ex):Prop where
 P:Y.P=prog
 N:j+l.length<=Y.N
 at_:∀i e,l[i]?=some e->Y.xs (j+i)=D0 e/\Y.go (j+i)=decide (e.kind=3)
theorem Fits.left{Y:Iw}{j:Nat}{l m:List Ex}(h:Fits Y j (l++m)):Fits Y j l where
 P:=h.P
 N:=by have:=h.N;rw[Bz]at this;omega
 at_:=λi e E=>h.at_ i e (by rw[Ls (B5.1 E).1];exact E)
def Fits.right{Y:Iw}{j:Nat}{l m:List Ex}(h:Fits Y j (l++m)):Fits Y (j+l.length) m where
 P:=h.P
 N:=by have:=h.N;rw[Bz]at this;omega
 at_:=λi e E=>by have:=h.at_ (l.length+i) e (by rw[M5 (by omega)];simpa using E);rw[Wr];exact this
def D9f{vars:List A3}{args:List Ty}(J:∀u,u∈args->u.Sm):∀t:Ty,t.Sm->(t.subst vars args).Sm:=by
 intro t
 induction t using Ty.induct with
 |h t L =>
 intro h;rw[Xj];split
 .rename_i O;have E:(Dc t.name vars 0).toNat<args.length:=by omega
  rw[B8 E,E1];have:=J _ (Fa E);exact .mk _ _ _ this.name this.len this.arg
 .refine .mk _ _ _ h.name (by rw[Bn];exact h.len) λu M=>?_;obtain⟨x,I,rfl⟩:=B1.1 M;exact L x I (h.arg x I)
def Ex.Sm.subst{vars:List A3}{args:List Ty}(J:∀u,u∈args->u.Sm)(e:Ex):e.Sm->(e.subst vars args).Sm:=by
 induction e using Ex.induct with
 |h e L =>
 intro h;unfold Ex.subst;rw[A5f];refine .mk _ _ _ _ _ _ h.name (D9f J _ h.type) ?_ ?_ ?_ ?_
 .show(e.targs.map (Ty.subst vars args)).length<=sm;rw[Bn];exact h.targs.1
 .intro t ht;have ht:t∈e.targs.map (Ty.subst vars args):=ht;obtain⟨u,E,rfl⟩:=B1.1 ht;exact D9f J _ (h.targs.2 u E)
 .show(e.kids.map _).length<=sm;rw[Bn];exact h.kids.1
 .intro k I;have I:k∈e.kids.map (Ex.mapped (Ex.A4v vars args)):=I;obtain⟨u,E,rfl⟩:=B1.1 I;exact L u E (h.kids.2 u E)
def B5r(vars:List A3)(E:List Ex)(e:Ex):Ex:=if e.kind=1/\0<=Dc e.name vars 0/\Dc e.name vars 0<E.length then(E[(Dc e.name vars 0).toNat]?).getD e else e
def Ex.Ri(vars:List A3)(E:List Ex):Ex->Ex:=Ex.mapped (B5r vars E)
def fieldsD(d:Decl)(x:Ty):List Param:=d.fields.map (Param.subst (Af d.A1) x.args)
def Bh(p:Prog)(x:Ty):List Param:=if Ch p x 1=true then fieldsD ((G2 p x.name).getD default) x else[]
abbrev Ry:List Nat:=[0,1,3,4,5,6,7,8,10,18,20,21,22,23]
def E3q(p:Prog)(h:p.Sm)(x:Ty)(hx:x.Sm):Ac prog 86 [.Ah (Ep p) 0,B6 x] (.tuple [.d (.slice (B9 (Bh p x))),Ay (Ch p x 1)]):=by
 have I:=B8b p h x 1 (by decide);unfold Bh;rcases Fb (Ch p x 1)with hi|hi
 .obtain⟨E,J,_⟩:=Qa (by decide) hi;rw[hi,A9 rfl];rw[J,E1,hi]at I;rw[J,E1];have L:=h.decls.2 E (Qc J);have a0:=L.fields.1;have W:=A4d E.A1 L.A1.1;unfold fieldsD;refine cB func86 ?_;refine sR Ry ?_;refine sC I Ry ?_;refine kR Ry λU u1=>?_;refine kI u1 ?_;clear u1 U;refine sR Ry ?_;refine A0.pp 8 5 8 rfl<|kR Ry λU u1=>?_;refine A0.bb (A0.ii E.fields (X:=Unit) (λj _=>[(3,.box 3 0),(6,.box 6 0),(8,.acc 8),(20,.d (.slice (B9 E.fields))),(21,A8 E.fields.length),(22,A8 j)])
   (λj _=>[(3,.cells [.d (.str x.name),Cd x.args,A8 x.pos]),(6,.cells ((Bb E).map .d)),(8,.rows 5 (B9 ((E.fields.take j).map (Param.subst (Af E.A1) x.args))))])
   (λj _=>True) () trivial sS (by simp[ble,A7,B9,Bb]) ?_ ?_)
  .intro _ _;rw[Dm];refine Aq B3 Ry ?_;refine A0.stop rfl ?_;simp only[A4,Ab,Ae];refine u1 _ _<|sR Ry ?_;exact aR
  .intro j _ d hd M dp tk V _;rw[tk];have O:=A1v (Af E.A1) x.args hx.arg d.type (L.fields.2 d M).type;refine Aq V Ry ?_;refine A0.Fk rfl<|sK λZ u2=>A0.bb ?_
   (refine sV Ry λK z=>?_;refine ci (E9 hd) ?_;apply z;clear z K)
   (refine lG Ry [] 15 [] λK z=>?_;refine ev ?_;refine cc W ?_;refine cc O ?_;refine⟨by simp,by simp only[Bn,Dx];unfold lim sm at*;omega,?_⟩;(try refine ev ?_);apply z;clear z K;try simp only[A4,Ab])
   refine u2 _ _ ?_;clear u2 Z;refine lT Ry ?_;exact⟨(),trivial,sS,by simp[ble,A7,B9,Bb,Ha,Param.subst]⟩
 .rw[hi]at I |-;rw[A6 (by decide)];generalize(G2 p x.name).getD default=E at*;refine cB func86 ?_;refine sR Ry ?_;refine sC I Ry ?_;refine kR Ry λU u1=>?_;refine tI ?_;refine sR Ry ?_;exact aR
def A2j(E:List (List Ty)):List (List D):=E.map λl=>[.slice (Au l)]
def D8p{E:List (List Ty)}{j:Nat}{l:List Ty}(h:E[j]?=some l):(A2j E)[j]?=some [.slice (Au l)]:=by simp[A2j,h]
abbrev Pt:List Nat:=[0,2,3,5,6,8,9,10,11,12,20,24,25,26,27,28]
def G4b(E:List (List Ty))(hl:E.length<=sm)(Z:(E.map List.length).sum<=2*sm):Ac prog 216 [.d (.slice (A2j E))] (.d (.slice (Au E.flatten))):=by
 refine cB func216 ?_;refine sR Pt ?_;refine sR Pt ?_;refine kR Pt λW u1=>?_;refine A0.bb (A0.ii E (X:=Unit) (λj _=>[(0,.d (.slice (A2j E))),(3,A8 (((E.take j).map List.length).sum:Nat)),(9,.d (.slice (A2j E))),(10,A8 E.length),(11,A8 j)]) (λ_ _=>[])
  (λj _=>True) () trivial (by simp[sle,Ax,Ag,A2j]) sB ?_ ?_)
 .intro _ _;rw[Dm];refine Aq B3 Pt ?_;refine A0.stop rfl ?_;simp only[A4,Ab,Ae];refine u1 _ _ ?_;clear u1 W
  (refine A0.Ef Pt [800024] (by decide +kernel) λK z=>?_;refine ev ?_;refine⟨_,_,_,C6q 24 rfl rfl rfl (F8u _ (by unfold sm at Z;omega)) rfl (by decide) rfl,?_⟩;simp only[SV.Dt,X4,Ae];(try refine ev ?_);apply z;clear z K)
  refine kR Pt λW u1=>?_;refine A0.bb (A0.ii E (X:=Unit) (λj _=>[(6,.acc 24),(25,.d (.slice (A2j E))),(26,A8 E.length),(27,A8 j)]) (λj _=>[(24,.rows 3 (Au (E.take j).flatten))])
   (λj _=>True) () trivial (by simp[sle,Ax,Ag,A2j]) (by simp[ble,A7,Cz]) ?_ ?_)
  .intro _ _;rw[Dm];refine Aq B3 Pt ?_;refine A0.stop rfl ?_;simp only[A4,Ab,Ae];refine u1 _ _ ?_;clear u1 W;refine sR Pt ?_;exact aR
  .intro j _ d U M dp L J hI;have I:=C1a E (j+1);rw[L,Gg,Ap1]at I;simp only[Ck,Hy,Mi,List.sum_nil,Sx]at I;rw[L,List.flatten_append,As5,List.flatten_nil,I8];refine Aq J Pt ?_;refine A0.Fk rfl<|sK λO u2=>A0.bb ?_
   (refine sV Pt λK z=>?_;refine ci (D8p U) ?_;apply z;clear z K)
   (refine lV Pt λK z=>?_;refine⟨A0j _,by rw[List.length_flatten];unfold lim sm at*;omega,?_⟩;(try refine ev ?_);apply z;clear z K;try simp only[A4,Ab])
   refine u2 _ _ ?_;clear u2 O;refine lT Pt ?_;exact⟨(),trivial,sS,by simp[ble,A7,Cz]⟩
 .intro j _ d U M dp L J hI;have I:=C1a E (j+1);rw[L,Gg,Ap1]at I;simp only[Ck,Hy,Mi,List.sum_nil,Sx]at I;have V:¬(((((E.take j).map List.length).sum:Nat):Int)+(d.length:Int)<0):=by omega
  rw[L,Gg,Ap1];simp only[Ck,Hy,Mi,List.sum_nil,Sx];refine Aq J Pt ?_;refine A0.Fk rfl<|sK λO u2=>A0.bb ?_
  (refine sV Pt λK z=>?_;refine ci (D8p U) ?_;apply z;clear z K)
  (refine sV Pt λK z=>?_;refine ca ?_;apply z;clear z K)
  refine Aq V Pt ?_;refine A0.ff rfl (A0.kk (u2 _ _ ?_));clear u2 O;refine lT Pt ?_;exact⟨(),trivial,sS,sB⟩
def C0.C7k{S:Nat->Prop}{w:World}{v:Value}(h:C0 S w (.slice []) v):C0 S w .nil v\/C0 S w .emp v:=by
 cases h with
 |Jz a cap E =>
  cases a with
  |none=>rw[E rfl];exact .inl .nil
  |some a=>exact .inr (.emp a cap)
 |slice rows b off cap sz _ _ _ _ _ _ _=>exact .inr (.emp _ cap)
def Bj.C7k{P:Program}{f:FuncId}{r:SV}{bx:Aa}(L:Bj P f [.d .nil] [] r bx)(U:Bj P f [.d .emp] [] r bx):Bj P f [.d (.slice [])] [] r bx:=by
 refine⟨L.1,λC β vs M O=>?_⟩;obtain⟨v,J,I⟩:=O.get (j:=0) (c:=.d (.slice [])) rfl;have E:vs=[v]:=by
  have V:=O.1
  match vs,V with
  |[u],_=>simpa using J
 subst E;rcases I.J0.C7k with h|h
 .exact L.2 C β _ M (.cons (.d _ _ h) .nil)
 .exact U.2 C β _ M (.cons (.d _ _ h) .nil)
def F0w(l:List A3)(I:l.length<=sm):Bj prog 200 [Cy l] [] (.acc 5) [(5,.rows 1 (C5 l))]:=by
 cases l with
 |nil =>
  rw[show C5 []=[] from rfl];refine Bj.C7k ?_ ?_
  .refine bB func200 ?_;refine sR [0,2,4] ?_;refine kR [0,2,4] λE u1=>?_;refine tI ?_;refine sR [0,2,4] ?_;refine A0.pp 5 1 2 rfl<|A0.ret ⟨_,by rw[results200];rfl,.inl rfl,by simp[ble,A7]⟩
  .refine bB func200 ?_;refine sR [0,2,4] ?_;refine kR [0,2,4] λE u1=>?_;refine kI u1 ?_;clear u1 E
   (refine A0.Ef [0,2,4,5] [5] (by decide +kernel) λK z=>?_;refine ev ?_;apply z;clear z K)
   exact A0.ret ⟨_,by rw[results200];rfl,.inl rfl,by simp[ble,A7]⟩
 |cons x xs =>
  refine bB func200 ?_;refine sR [0,2,4] ?_;refine kR [0,2,4] λE u1=>?_;refine kI u1 ?_;clear u1 E
  (refine A0.Ef [0,2,4,5] [5] (by decide +kernel) λK z=>?_;refine ev ?_;refine⟨A5n _,by have:=I;simp only[C6]at this;unfold lim sm at*;omega,?_⟩;(try refine ev ?_);apply z;clear z K)
  exact A0.ret ⟨_,by rw[results200];rfl,.inl rfl,by simp[ble,A7]⟩
def Kq(p:Prog)(x:Ty)(m:A3):Option Decl:=if Ch p x 1=true then(match p.decls.find? (Ka x.name m)with
 |some d=>if d.vars.length=x.args.length then some d else none
 |none=>none)else none
def G2o(p:Prog)(E m:A3):A2f p (Hf E (46::m))=p.decls.find? (Ka E m):=by unfold A2f;rw[<-E3b];rfl
def ex0:Ex:=.mk 0 [] (.mk [] [] 0) [] [] 0
def F8g:ex0.Sm:=.mk _ _ _ _ _ _ (by simp) (.mk _ _ _ (by simp) (by simp) (by simp)) (by simp) (by simp) (by simp) (by simp)
def F0p(d:Decl)(h:d.Sm):Ac prog 259 [Ma d] (Ma d):=by
 have I:=E0t ⟨[d],.mk 0 [] (.mk [] [] 0) [] [] 0⟩ ⟨⟨show 1<=sm by decide,λt ht=>by rw[Ps.1 ht];exact h⟩,F8g⟩;have E:=Ev (l:=[d]) (i:=0) rfl;refine cB func259 ?_;refine sR [0,1,2] ?_
 (refine sV [0,1,2] λK z=>?_;refine cc I ?_;refine cj E ?_;apply z;clear z K)
 exact aR
abbrev Lc:List Nat:=[0,1,2,4,6,7,8,9,11,42]
def E5i(p:Prog)(h:p.Sm)(x:Ty)(hx:x.Sm)(m:A3)(Z:m.length<=sm):Ac prog 214 [.Ah (Ep p) 0,B6 x,D9 m] (.tuple [Ma ((Kq p x m).getD default),Ay (Kq p x m).isSome]):=by
 have J:=B7d p h x.name (46::m);rw[G2o]at J;have I:=B8b p h x 1 (by decide);unfold Kq;generalize(G2 p x.name).getD default=dd at*;cases O:p.decls.find? (Ka x.name m)with
 |none =>
  rw[O]at J;simp only[Nh,Ky]at J;have e:(if Ch p x 1=true then(none:Option Decl)else none)=none:=by split <;> rfl
  simp only[e,Nh,Ky];generalize Ch p x 1=bb at*;refine cB func214 ?_;refine sR Lc ?_
  (refine sV Lc λK z=>?_;refine⟨by unfold lim sm at*;omega,?_⟩;(try refine ev ?_);refine cc J ?_;apply z;clear z K)
  refine kC I Lc λM u1=>?_;cases bb
  .refine sR Lc ?_;refine tI ?_;refine sR Lc ?_;exact aR
  .refine sR Lc ?_;refine tI ?_;refine sR Lc ?_;exact aR
 |some d =>
  rw[O]at J;simp only[E1,An2]at J;have V:=Am6 O;have U:=F0p d (h.decls.2 d V);cases W:Ch p x 1 with
  |false =>
   rw[W]at I;simp only[I6,Fy,Nh,Ky];refine cB func214 ?_;refine sR Lc ?_
   (refine sV Lc λK z=>?_;refine⟨by unfold lim sm at*;omega,?_⟩;(try refine ev ?_);refine cc J ?_;apply z;clear z K)
   refine kC I Lc λM u1=>?_;refine sR Lc ?_;refine tI ?_;refine sR Lc ?_;exact aR
  |true =>
   rw[W]at I;by_cases L:d.vars.length=x.args.length
   .have E:(d.vars.length:Int)=x.args.length:=by omega
    simp only[Ae,A9 L,E1,An2];refine cB func214 ?_;refine sR Lc ?_
    (refine sV Lc λK z=>?_;refine⟨by unfold lim sm at*;omega,?_⟩;(try refine ev ?_);refine cc J ?_;apply z;clear z K)
    refine kC I Lc λM u1=>?_;refine Aq E Lc ?_;refine kI u1 ?_;clear u1 M;refine sC U Lc ?_;exact aR
   .have E:¬(d.vars.length:Int)=x.args.length:=by omega
    simp only[Ae,A6 L,Nh,Ky];refine cB func214 ?_;refine sR Lc ?_
    (refine sV Lc λK z=>?_;refine⟨by unfold lim sm at*;omega,?_⟩;(try refine ev ?_);refine cc J ?_;apply z;clear z K)
    refine kC I Lc λM u1=>?_;refine Aq E Lc ?_;refine tI ?_;refine sR Lc ?_;exact aR
abbrev Wj:List Nat:=[0,1,2,3,4,5,6,7,8,21]
def C0f(p:Prog)(h:p.Sm)(x:Ty)(hx:x.Sm)(hi:Ch p x 1=true):Ac prog 22 [D7 p,B6 x] (.d (.slice (B9 (Bh p x)))):=by
 obtain⟨I,E,_⟩:=Qa (by decide) hi;unfold Bh;rw[A9 hi,E,E1];have J:=h.decls.2 I (Qc E);have a0:=J.fields.1;have hn:=Vq I.A1 J.A1.1;have M:=A8u p x.name;obtain⟨k,hk,V⟩:∃k:Nat,p.decls[k]?=some I/\findD x.name p.decls 0=(k:Int):=by
  rcases A9g x.name p.decls 0 with⟨_,W⟩|⟨k,e,h1,W,h3⟩
  .have:G2 p x.name=none:=W;rw[E]at this;cases this
  .have:G2 p x.name=some e:=h3;rw[E]at this;obtain rfl:=Pb this;exact⟨k,h1,by rw[W];simp⟩
 rw[V]at M;unfold fieldsD;refine cB func22 ?_;refine sR Wj ?_
 (refine sG Wj [] 9 [⟨[],[],[5],[5]⟩,⟨[],[],[5],[5]⟩,⟨[],[],[5],[5]⟩,⟨[],[],[5],[5]⟩,⟨[],[],[5],[5]⟩,⟨[],[],[5],[5]⟩,⟨[],[],[5],[5]⟩,⟨[],[],[5],[5]⟩,⟨[5],[5],[],[]⟩] λK z=>?_;refine ev ?_;refine cc M ?_;refine ci (Ev hk) ?_;apply z;clear z K)
 refine sR Wj ?_;refine A0.pp 6 5 6 rfl<|kR Wj λK1 u1=>?_;refine A0.bb (A0.ii I.fields (X:=Unit) (λj _=>[(3,.box 3 0),(5,.box 5 0),(6,.acc 6),(7,A8 j)])
  (λj _=>[(3,.cells [.d (.str x.name),Cd x.args,A8 x.pos]),(5,.cells ((Bb I).map .d)),(6,.rows 5 (B9 ((I.fields.take j).map (Param.subst (Af I.A1) x.args))))])
  (λj _=>True) () trivial sS (by simp[ble,A7,B9,Bb]) ?_ ?_)
 .intro _ _;rw[Dm];refine Ai B3 Wj λU u2=>?_;refine A0.ss rfl ?_;simp only[A4,Ab,Ae];refine u1 _ _<|sR Wj ?_;exact aR
 .intro j _ d hd L dp tk Z _;rw[tk];have O:=Vy (Af I.A1) x.args hx.arg d.type (J.fields.2 d L).type;refine Ai Z Wj λU u2=>?_;refine gI u2 ?_;clear u2 U;refine sK λU u2=>A0.bb ?_
  (refine sV Wj λK z=>?_;refine ci (E9 hd) ?_;apply z;clear z K)
  (refine sG Wj [] 7 [] λK z=>?_;refine ev ?_;refine cc hn ?_;refine cc O ?_;apply z;clear z K)
  (refine lV Wj λK z=>?_;refine⟨by simp,by simp only[Bn,Dx];unfold lim sm at*;omega,?_⟩;(try refine ev ?_);apply z;clear z K;try simp only[A4,Ab])
  refine u2 _ _ ?_;clear u2 U;refine lT Wj ?_;exact⟨(),trivial,sS,by simp[ble,A7,B9,Bb,Ha,Param.subst]⟩
end Go.Abs
