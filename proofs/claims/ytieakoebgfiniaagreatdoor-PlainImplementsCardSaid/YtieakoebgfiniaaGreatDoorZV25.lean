/- infer: wrong, fields, fits, all, literal, variable -/
import Derived.Test.YtieakoebgfiniaaGreatDoorZU06
import Derived.Test.YtieakoebgfiniaaGreatDoorZS77
import Derived.Test.YtieakoebgfiniaaGreatDoorZT07
set_option linter.all false
set_option maxHeartbeats 8000000
set_option maxRecDepth 100000
namespace Go.Abs
open Go Go.Proofs Tryz
abbrev ckS(c:Cf):List SV:=[.A9 (Dh c.p) 0,.d (.bool false),.d (.slice (Ag c.env)),.d (.slice (Av c.vars))]
abbrev Us(c:Cf):SV:=.agg (ckS c)
def toV(z:TO):SV:=.tuple [B7 z.1,.d (Jk 4 z.2)]
def B9p(c:Cf)(x:Ty):List Param:=if Ep c.env x<0 then Bx c.p x else[]
abbrev A1p:List Nat:=[0,1,2,3,4,5,7,15]
def H4h(c:Cf)(h:c.Sm)(x:Ty)(O:x.Sm):Aa prog 295 [Us c,B7 x] (.tuple [.d (.slice (Av (B9p c x))),Aw (Ju c x)]):=by
 have I:=B9u c.env x h.el h.env;have U:=F5s c.p h.p x O;unfold B9p Ju;by_cases E:Ep c.env x<0
 .rw[A8 E,Bj E,Cj];rw[show Cs c.env x=none by unfold Cs;rw[A8 E],Yj]at I;refine cB func295 ?_;refine sR A1p ?_;refine kC I A1p λL u1=>?_;refine sR A1p ?_;refine kI u1 ?_;clear u1 L;refine sC U A1p ?_;exact aR
 .rw[A6 E,C9 E,C3];obtain⟨f,J,_⟩:=A5v E;rw[show Cs c.env x=some f.bound by unfold Cs;rw[A6 E,J];rfl,Yj]at I;refine cB func295 ?_;refine sR A1p ?_;refine kC I A1p λL u1=>?_;refine sR A1p ?_;refine tI ?_;refine sR A1p ?_;exact aR
def C9v(f:FuncId)(c:Cf)(e:Ex)(z:TO):Prop:=∃t,(z.2=none->t=z.1)/\Aa prog f [Us c,D3 e] (.tuple [B7 t,.d (Jk 4 z.2)])
def C9v.of{f:FuncId}{c:Cf}{e:Ex}{z:TO}(h:Aa prog f [Us c,D3 e] (toV z)):C9v f c e z:=⟨z.1,λ_=>rfl,h⟩
abbrev ckD(c:Cf):List D:=[.ptr (Dh c.p),.bool false,.slice (Ag c.env),.slice (Av c.vars)]
def D7d(c:Cf):Wv (ckS c) (ckD c):=⟨⟨rfl,rfl⟩,⟨rfl,rfl⟩,⟨rfl,rfl⟩,⟨rfl,rfl⟩,trivial⟩
abbrev A7p(c:Cf)(f:FuncId):D:=.fn f [.agg (ckD c)]
abbrev B9s(c:Cf):List SV:=[.d .Fh,.d (A7p c 232),.d (A7p c 233),.d (A7p c 234),.d (A7p c 235),.d (A7p c 236)]
def I1(g:Ex->Bool)(l:List Ex):Bool:=l.all g
def A9h(g:Ex->Bool)(l m:List Ex):I1 g (l++m)=(I1 g l && I1 g m):=by simp[I1]
def D8x(e:Ex):Co [e]=B8 e:=by rw[Co,Co,Fj]
def Iy(g:Ex->Bool)(j:Nat)(l:List Ex):Option Nat:=if I1 g l=true then some (j+l.length)else none
structure Qk(g:Ex->Bool)(Y:Gx)(j:Nat)(l:List Ex):Prop where
 P:Y.P=prog
 N:j+l.length<=Y.N
 at_:∀i e,l[i]?=some e->Y.xs (j+i)=D3 e/\Y.go (j+i)=g e
theorem Qk.left{g:Ex->Bool}{Y:Gx}{j:Nat}{l m:List Ex}(h:Qk g Y j (l++m)):Qk g Y j l where
 P:=h.P
 N:=by have:=h.N;rw[B6]at this;omega
 at_:=λi e E=>h.at_ i e (by rw[L4 (Az.1 E).1];exact E)
def Qk.right{g:Ex->Bool}{Y:Gx}{j:Nat}{l m:List Ex}(h:Qk g Y j (l++m)):Qk g Y (j+l.length) m where
 P:=h.P
 N:=by have:=h.N;rw[B6]at this;omega
 at_:=λi e E=>by have:=h.at_ (l.length+i) e (by rw[Kd (by omega)];simpa using E);rw[Si];exact this
abbrev Xk:List Nat:=[0,1,4,5,7,8,9,16,1000000]
def F0j(g:Ex->Bool)(f:FuncId)(caps:List SV)(V:∀x:Ex,G7 [] (D3 x::caps)=some (D3 x::caps))(Y:Gx)(l:List Ex)(hl:l.length<=lim)(O:Nat)(I:Qk g Y O (Co l))
  (hc:∀e,e∈l->∀j,Qk g Y j (B8 e)->C8 prog f (D3 e::caps) [(1000000,.ghost Y (some j))] (Aw (!I1 g (B8 e))) [(1000000,.ghost Y (Iy g j (B8 e)))]) :
  C8 prog 274 [.d (.slice (Eb l)),.Bf f caps] [(1000000,.ghost Y (some O))] (A5 (Dr (λe=>!I1 g (B8 e)) l)) [(1000000,.ghost Y (Iy g O (Co l)))]:=by
 refine bB func274 ?_;refine sR Xk ?_;refine kR Xk λK1 u1=>?_;refine A0.bb (A0.ii l (X:=Unit) (λj _=>[(0,.d (.slice (Eb l))),(1,.Bf f caps),(7,A5 l.length),(8,A5 j)]) (λj _=>[(1000000,.ghost Y (some (O+(Co (l.take j)).length)))])
  (λj _=>I1 g (Co (l.take j))=true/\∀y,y∈l.take j->(!I1 g (B8 y))=false) () (by simp[Co,I1]) sS (by simp[ble,A7,Co]) ?_ ?_)
 .intro _ J;rw[Ci]at J |-;refine Ak B3 Xk ?_;refine A0.stop rfl ?_;simp only[A4,Ac,Af];refine u1 _ _<|sR Xk ?_;rw[Tg J.2];unfold Iy;rw[A8 J.1];exact A0.ret ⟨_,by rw[results274];rfl,.inr rfl,by simp[ble,A7]⟩
 .intro j _ d hd W dp tk Z J;have a1:Qk g Y (O+(Co (l.take j)).length) (B8 d):=by
   have L:l=l.take j++(d::l.drop (j+1)):=by rw[<-dp,Uz]
   rw[L,Zu,Co]at I;exact I.right.left
  have E:=hc d W _ a1;refine Ak Z Xk ?_;refine A0.Er rfl<|sK λK2 u2=>A0.bb<|sR Xk ?_;cases U:I1 g (B8 d)with
  |true =>
   unfold Iy at E;rw[U,A8 rfl]at E
   (refine A0.D7 Xk [700016] (by decide +kernel) λK z=>?_;refine ev ?_;refine ci (G8 hd) ?_;refine⟨_,_,_,V d,E,rfl,?_⟩;(try refine ev ?_);apply z;clear z K)
   refine A0.ff rfl (A0.kk (u2 _ _ ?_));clear u2 K2
   (refine lV Xk λK z=>?_;refine⟨by first| (unfold B4;omega)| (simp only[B4,lim]at*;omega),?_⟩;(try refine ev ?_);apply z;clear z K;try simp only[A4,])
   refine⟨(),?_,sS,?_⟩
   .rw[tk,Zu,A9h,J.1,D8x,U];refine⟨rfl,λy hy=>?_⟩;rcases Bz.1 hy with hy|hy
    .exact J.2 y hy
    .rw[U0.1 hy,U];rfl
   .rw[tk,Zu,D8x,B6,<-Si];simp[ble,A7]
  |false =>
   unfold Iy at E;rw[U,A6 (by decide)]at E
   (refine A0.D7 Xk [700016] (by decide +kernel) λK z=>?_;refine ev ?_;refine ci (G8 hd) ?_;refine⟨_,_,_,V d,E,rfl,?_⟩;(try refine ev ?_);apply z;clear z K)
   refine A0.tt rfl<|sR Xk ?_;rw[Tt hd (by rw[U];rfl) J.2];have L:l=l.take j++(d::l.drop (j+1)):=by rw[<-dp,Uz]
   have a0:Iy g O (Co l)=none:=by unfold Iy;rw[A6];rw[L,Zu,Co,A9h,A9h,U];simp
   rw[a0];exact A0.ret ⟨_,by rw[results274];rfl,.inr rfl,by simp[ble,A7]⟩
def G1c(g:Ex->Bool)(l:List Ex):decide (Dr (λe=>!I1 g (B8 e)) l >= 0) = !I1 g (Co l):=by
 have J:∀l:List Ex,(∀x,x∈l->I1 g (B8 x)=true)->I1 g (Co l)=true:=by
  intro l
  induction l with
  |nil=>intro _;simp[Co,I1]
  |cons e l O =>intro h;rw[Co,A9h,h e (by simp),O λx E=>h x (by simp[E])];rfl
 unfold Dr;cases h:l.findIdx? (λe=>!I1 g (B8 e))with
 |none =>
  have L:∀x,x∈l->I1 g (B8 x)=true:=by simpa [Ao1]using h
  rw[J l L];rfl
 |some j =>
  obtain⟨V,U,_⟩:=Ah1.1 h;have hd:l=l.take j++(l[j]::l.drop (j+1)):=by rw[List.getElem_cons_drop,Uz]
  have I:I1 g (B8 l[j])=false:=by simpa using U
  rw[hd,Zu,Co,A9h,A9h,I];simp
def H5q(g:Ex->Bool)(f:FuncId)(caps:List SV)(L:G7 [] caps=some caps)(J:∀x:Ex,G7 [] (D3 x::caps)=some (D3 x::caps))(Y:Gx)(l:List Ex)(U:l.length<=lim)(E:Nat)(I:Qk g Y E (Co l))
  (O:∀e,e∈l->∀j,Qk g Y j (B8 e)->C8 prog f (D3 e::caps) [(1000000,.ghost Y (some j))] (Aw (!I1 g (B8 e))) [(1000000,.ghost Y (Iy g j (B8 e)))]) :
  C8 prog 203 [.d (.slice (Eb l)),.Bf f caps] [(1000000,.ghost Y (some E))] (Aw (!I1 g (Co l))) [(1000000,.ghost Y (Iy g E (Co l)))]:=by
 have h:=F0j g f caps J Y l U E I O;rw[<-G1c g];generalize Dr (λe=>!I1 g (B8 e)) l=k at*;generalize Iy g E (Co l)=st at*;refine bB func203 ?_;refine sR [0,1,4,1000000] ?_
 (refine A0.D7 [0,1,4,1000000] [700007] (by decide +kernel) λK z=>?_;refine ev ?_;refine⟨_,_,_,(by rw[L]),h,rfl,?_⟩;(try refine ev ?_);apply z;clear z K)
 exact A0.ret ⟨_,by rw[results203];rfl,.inr rfl,by simp[ble,A7]⟩
abbrev A6f:List Nat:=[0,1,2,3,4,5,9,1000000]
def F0e(g:Ex->Bool)(Y:Gx):∀(e:Ex)(j:Nat),Qk g Y j (B8 e)->C8 prog 145 [D3 e,.Eo Y.l] [(1000000,.ghost Y (some j))] (Aw (I1 g (B8 e))) [(1000000,.ghost Y (Iy g j (B8 e)))]:=by
 intro e
 induction e using Ex.induct with
 |h e ih =>
 intro j J;refine C8.bd (Enters.of func145 rfl (by decide)) λa0=>?_;have a1:=(C1w a0.1).kids.1;have hP:=J.P;have V:=J.at_ 0 e (by rw[M7];rfl);have hN:j<Y.N:=by have:=J.N;rw[M7,Bg]at this;omega
 rw[Ma]at V;have a2:∀k,k∈e.kids->∀i,Qk g Y i (B8 k)->C8 prog 202 [D3 k,.F5 [.Eo Y.l] 0] [(1000000,.ghost Y (some i))] (Aw (!I1 g (B8 k))) [(1000000,.ghost Y (Iy g i (B8 k)))]:=by
  intro k U i hi;have:=ih k U i hi;generalize I1 g (B8 k)=bb at*;generalize Iy g i (B8 k)=st at*;refine bB func202 ?_;refine sR [0,1,2,3,1000000] ?_
  (refine A0.D7 [0,1,2,3,1000000] [700006] (by decide +kernel) λK z=>?_;refine ev ?_;refine⟨_,_,_,rfl,this,rfl,?_⟩;(try refine ev ?_);apply z;clear z K)
  exact A0.ret ⟨_,by rw[results202];rfl,.inr rfl,by simp[ble,A7]⟩
 by_cases U:g e=true
 .have Z:Qk g Y (j+1) (Co e.kids):=by
   have:=J;rw[M7,show e::Co e.kids=[e]++Co e.kids from rfl]at this;exact this.right
  have W:=H5q g 202 [.F5 [.Eo Y.l] 0] rfl (λ_=>rfl) Y e.kids a1 (j+1) Z a2;have E:I1 g (B8 e)=I1 g (Co e.kids):=by rw[M7];simp[I1,U]
  have L:Iy g j (B8 e)=Iy g (j+1) (Co e.kids):=by
   unfold Iy;rw[E,M7,Bg];split
   .congr 1;omega
   .rfl
  rw[E,L];have I:Y.go j=true:=by rw[V.2,U]
  have O:Y.next j=some (j+1):=by unfold Gx.next;rw[A8 I]
  generalize I1 g (Co e.kids)=bb at*;generalize Iy g (j+1) (Co e.kids)=st at*;refine bB func145 ?_;refine sR A6f<|sK λK1 u1=>?_
  (refine A0.D7 A6f [700008] (by decide +kernel) λK z=>?_;refine Fm I O ?_;refine⟨_,rfl,hP,hN,V.1,?_⟩;(try refine Fm I O ?_);apply z;clear z K)
  refine kI u1 ?_;clear u1 K1;refine A0.D5t 3 rfl rfl (wk [(0,D3 e),(1,.Eo Y.l),(2,.box 2 0),(3,.F5 [.Eo Y.l] 0),(4,.d (.bool false))] [(2,.cells (exS e)),(1000000,.ghost Y (some (j+1)))] ?_);refine sR A6f ?_
  (refine A0.D7 A6f [700014] (by decide +kernel) λK z=>?_;refine ev ?_;refine⟨_,_,_,rfl,W,rfl,?_⟩;(try simp -implicitDefEqProofs only[EV,Nat.reduceEqDiff,reduceCtorEq,Bool.not_not]);apply z;clear z K)
  exact A0.ret ⟨_,by rw[results145];rfl,.inr rfl,by simp[ble,A7]⟩
 .have I:Y.go j=false:=by rw[V.2];simpa using U
  have O:Y.next j=none:=by unfold Gx.next;rw[A6 (by rw[I];decide)]
  have E:I1 g (B8 e)=false:=by rw[M7];simp[I1,U]
  have L:Iy g j (B8 e)=none:=by unfold Iy;rw[E];rfl
  rw[E,L];refine bB func145 ?_;refine sR A6f<|sK λK1 u1=>?_
  (refine A0.D7 A6f [700008] (by decide +kernel) λK z=>?_;refine Fm I O ?_;refine⟨_,rfl,hP,hN,V.1,?_⟩;(try refine Fm I O ?_);apply z;clear z K)
  refine tI ?_;refine sR A6f ?_;exact A0.ret ⟨_,by rw[results145];rfl,.inr rfl,by simp[ble,A7]⟩
def D6a(e:Ex):C8 prog 76 [D3 e] [] (.Bf 144 [.A9 (Cg e) 0]) []:=by refine bB func76 ?_;refine sR [0,1,2] ?_;refine A0.zz 1 rfl rfl<|sR [0,1,2] ?_;exact A0.ret ⟨_,by rw[results76];rfl,.inr rfl,by simp[ble]⟩
def D1i(g:Ex->Bool)(e:Ex)(Y:Gx)(I:Qk g Y 0 (B8 e)):C8 prog 144 [.Eo Y.l,.A9 (Cg e) 0] [(1000000,.ghost Y (some 0))] (.tuple []) [(1000000,.ghost Y (Iy g 0 (B8 e)))]:=by
 have E:=F0e g Y e 0 I;refine bB func144 ?_
 (refine A0.A0n [0,1,1000000] [700005] (by decide +kernel) λK z=>?_;refine ev ?_;refine⟨_,_,_,rfl,E,rfl,?_⟩;(try refine ev ?_);apply z;clear z K;try simp only[A4,Ac,Af])
 exact⟨_,by rw[results144];rfl,.inr rfl,by simp[ble,A7]⟩
abbrev Nx:List Nat:=[0,2,3,5,6,8,9,10,11,12,20,24,25,26,27,28]
def G3f(E:List (List Ty))(hl:E.length<=sm)(hn:(E.map List.length).sum<=2*sm):C8 prog 104 [.d (.slice (Qa E))] [] (.acc 24) [(24,.rows 3 (Ax E.flatten))]:=by
 refine bB func104 ?_;refine sR Nx ?_;refine sR Nx ?_;refine kR Nx λO u1=>?_;refine A0.bb (A0.ii E (X:=Unit) (λj _=>[(0,.d (.slice (Qa E))),(3,A5 (((E.take j).map List.length).sum:Nat)),(9,.d (.slice (Qa E))),(10,A5 E.length),(11,A5 j)]) (λ_ _=>[])
  (λj _=>True) () trivial (by simp[sle,Ay,Ae,Qa]) sB ?_ ?_)
 .intro _ _;rw[Ci];refine Ak B3 Nx ?_;refine A0.stop rfl ?_;simp only[A4,Ac,Af];refine u1 _ _ ?_;clear u1 O
  (refine A0.D7 Nx [800024] (by decide +kernel) λK z=>?_;refine ev ?_;refine⟨_,_,_,B7n 24 rfl rfl rfl (E3d _ (by unfold sm at hn;omega)) rfl (by decide) rfl,?_⟩;simp only[SV.Ek,A8c,Af];(try refine ev ?_);apply z;clear z K)
  refine kR Nx λO u1=>?_;refine A0.bb (A0.ii E (X:=Unit) (λj _=>[(6,.acc 24),(25,.d (.slice (Qa E))),(26,A5 E.length),(27,A5 j)]) (λj _=>[(24,.rows 3 (Ax (E.take j).flatten))])
   (λj _=>True) () trivial (by simp[sle,Ay,Ae,Qa]) (by simp[ble,A7,Dj]) ?_ ?_)
  .intro _ _;rw[Ci];refine Ak B3 Nx ?_;refine A0.stop rfl ?_;simp only[A4,Ac,Af];refine u1 _ _ ?_;clear u1 O;refine sR Nx ?_;exact A0.ret ⟨_,by rw[results104];rfl,.inl rfl,by simp[ble,A7]⟩
  .intro j _ d hd L W tk J Z;have I:=A9t E (j+1);rw[tk,G0,Y7]at I;simp only[Ck,G3,J5,List.sum_nil,Ma]at I;rw[tk,List.flatten_append,Ao6,List.flatten_nil,Fj];refine Ak J Nx ?_;refine A0.Er rfl<|sK λU u2=>A0.bb ?_
   (refine sV Nx λK z=>?_;refine ci (B7e hd) ?_;apply z;clear z K)
   (refine lV Nx λK z=>?_;refine⟨Wj _,by rw[List.length_flatten];unfold lim sm at*;omega,?_⟩;(try refine ev ?_);apply z;clear z K;try simp only[A4,Ac])
   refine u2 _ _ ?_;clear u2 U;refine lT Nx ?_;exact⟨(),trivial,sS,by simp[ble,A7,Dj]⟩
 .intro j _ d hd L W tk J Z;have I:=A9t E (j+1);rw[tk,G0,Y7]at I;simp only[Ck,G3,J5,List.sum_nil,Ma]at I;have V:¬(((((E.take j).map List.length).sum:Nat):Int)+(d.length:Int)<0):=by omega
  rw[tk,G0,Y7];simp only[Ck,G3,J5,List.sum_nil,Ma];refine Ak J Nx ?_;refine A0.Er rfl<|sK λU u2=>A0.bb ?_
  (refine sV Nx λK z=>?_;refine ci (B7e hd) ?_;apply z;clear z K)
  (refine sV Nx λK z=>?_;refine ca ?_;apply z;clear z K)
  refine Ak V Nx ?_;refine A0.ff rfl (A0.kk (u2 _ _ ?_));clear u2 U;refine lT Nx ?_;exact⟨(),trivial,sS,sB⟩
abbrev Z8:List Nat:=[0,2,3,5,6,7,8,9]
def E4s(l:List Ah)(W:l.length<=2000):Aa prog 105 [.d (.slice (Ag l))] (.d (.slice (Ax (Lc l)))):=by
 refine cB func105 ?_;refine sR Z8 ?_;refine sR Z8 ?_;refine A0.pp 3 3 3 rfl<|kR Z8 λU u1=>?_;refine A0.bb (A0.ii l (X:=Unit) (λj _=>[(3,.acc 3),(6,.d (.slice (Ag l))),(7,A5 l.length),(8,A5 j)]) (λj _=>[(3,.rows 3 (Ax (Lc (l.take j))))])
  (λ_ _=>True) () trivial sS (by simp[ble,A7,Lc,Dj]) ?_ ?_)
 rotate_left
 .intro j _ u I J V tk E _;have L:=(Az.1 I).1;rw[tk];refine Ak E Z8 ?_;refine A0.Er rfl<|sK λO u2=>A0.bb ?_
  (refine sV Z8 λK z=>?_;refine ci (F4 I) ?_;apply z;clear z K)
  (refine lV Z8 λK z=>?_;refine⟨by simp,by(try simp only[Lc,Bc,D4]);unfold lim;omega,?_⟩;(try refine ev ?_);apply z;clear z K;try simp only[A4,Ac])
  refine u2 _ _ ?_;clear u2 O
  (refine lV Z8 λK z=>?_;refine cl ?_;apply z;clear z K;try simp only[A4,])
  exact⟨(),trivial,sS,by simp[ble,A7,Dj,Lc,Bo]⟩
 intro _ _;rw[Ci];refine Ak B3 Z8 ?_;refine A0.stop rfl ?_;simp only[A4,Ac,Af];refine u1 _ _ ?_;clear u1 U;refine sR Z8 ?_;exact aR
abbrev Zv:List Nat:=[0,2,3,5,6,7,8,9]
def E3s(l:List Param)(W:l.length<=2000):Aa prog 106 [.d (.slice (Av l))] (.d (.slice (Ax (Li l)))):=by
 refine cB func106 ?_;refine sR Zv ?_;refine sR Zv ?_;refine A0.pp 3 3 3 rfl<|kR Zv λU u1=>?_;refine A0.bb (A0.ii l (X:=Unit) (λj _=>[(3,.acc 3),(6,.d (.slice (Av l))),(7,A5 l.length),(8,A5 j)]) (λj _=>[(3,.rows 3 (Ax (Li (l.take j))))])
  (λ_ _=>True) () trivial sS (by simp[ble,A7,Li,Dj]) ?_ ?_)
 rotate_left
 .intro j _ u I J V tk E _;have L:=(Az.1 I).1;rw[tk];refine Ak E Zv ?_;refine A0.Er rfl<|sK λO u2=>A0.bb ?_
  (refine sV Zv λK z=>?_;refine ci (Du I) ?_;apply z;clear z K)
  (refine lV Zv λK z=>?_;refine⟨by simp,by(try simp only[Li,Bc,D4]);unfold lim;omega,?_⟩;(try refine ev ?_);apply z;clear z K;try simp only[A4,Ac])
  refine u2 _ _ ?_;clear u2 O
  (refine lV Zv λK z=>?_;refine cl ?_;apply z;clear z K;try simp only[A4,])
  exact⟨(),trivial,sS,by simp[ble,A7,Dj,Li,Bo]⟩
 intro _ _;rw[Ci];refine Ak B3 Zv ?_;refine A0.stop rfl ?_;simp only[A4,Ac,Af];refine u1 _ _ ?_;clear u1 U;refine sR Zv ?_;exact aR
def D4z(s:A3)(hs:s.Le):Aa prog 107 [Cy s] (.d (.slice (Ax (Qw s)))):=by
 have I:=E4s s.A1 hs.A1;have L:=E3s s.params hs.params;have O:=hs.A1;have J:=hs.params;have E:=G3f [Lc s.A1,Li s.params] (show 2<=sm by decide) (by simp only[Ck,G3,J5,List.sum_nil,Lc,Li,Bc];unfold sm;omega);simp only[Qa,Ck,G3,Ao6,List.flatten_nil,Fj]at E;unfold Qw;rw[D3r (Lc s.A1++Li s.params),show Ax [s.result]=[Bo s.result] by simp[Dj]];refine cB func107 ?_;refine sR [0,1,2] ?_
 (refine sG [0,1,2,10] [10] 11 [⟨[],[],[],[]⟩,⟨[],[],[],[]⟩,⟨[],[],[],[]⟩,⟨[],[],[],[]⟩,⟨[],[],[],[]⟩,⟨[],[],[],[]⟩,⟨[],[],[],[]⟩,⟨[10],[10],[],[]⟩,⟨[],[],[10],[10]⟩,⟨[],[],[10],[10]⟩,⟨[],[],[10],[10]⟩] λK z=>?_;refine ev ?_;refine cc I ?_;refine cc L ?_;refine⟨_,_,_,_,_,rfl,E,?_⟩;(try refine ev ?_);refine⟨by simp,by(try simp only[Lc,Li,B6,Bc]);unfold lim;omega,?_⟩;(try refine ev ?_);apply z;clear z K)
 exact aR
abbrev A0u:List Nat:=[0,1,2,3,4,6,7,19,900,2000003]
def E5h(e:Ex)(he:e.Le):Aa prog 108 [D3 e] (.d (.slice (Ax (R4 e)))):=by
 have hA:=D6a e;have J:Iy (λ_=>true) 0 (B8 e)=some (B8 e).length:=by simp[Iy,I1]
 have a0:=he.Da;unfold R4 at*;have U:∀j,(Nb ((B8 e).take j)).length<=(Nb (B8 e)).length:=λj=>by
  conv=>rhs;rw[<-Uz j (B8 e),C1v,B6]
  omega
 refine cB func108 ?_;refine sR A0u ?_;refine sR A0u ?_;refine A0.Rb 900 3 3 0 rfl rfl (by decide)<|kC hA A0u λK1 u1=>?_;refine A0.bb (A0.rangeFunc (caps:=[.A9 (Cg e) 0]) (caps':=[.A9 (Cg e) 0]) (f:=144) (r:=.tuple []) (N:=(B8 e).length) (xs:=λi=>D3 (((B8 e)[i]?).getD e)) (go:=λ_=>true) (jump:=.ret) (ks:=[2000003,900]) (slR:=[(3,.box 2000003 0)])
  (mb:=λst=>match st with|some j=>[(2000003,.cells [.acc 900]),(900,.rows 3 (Ax (Nb ((B8 e).take j))))]|none=>[]) (st:=Iy (λ_=>true) 0 (B8 e)) ⟨⟨_,rfl⟩,by decide,by decide,rfl,λst=>by cases st <;> rfl,by decide,λ_=>rfl,?_⟩ (λst=>by cases st <;> simp) rfl rfl ?_ ⟨.inr (.inl rfl),trivial⟩ ⟨rfl,rfl,trivial⟩ ?_ ?_)
 .intro j L a1 l;have V:=Bi L;have W:=U j;have I:=U (j+1);have E:Nb ((B8 e).take (j+1))=Nb ((B8 e).take j)++A6p (B8 e)[j]:=by rw[J0 L,C1v];simp[Nb]
  rw[E,B6]at I;obtain⟨A,O⟩:∃A,Nb ((B8 e).take j)=A:=⟨_,rfl⟩;rw[O]at W I E;generalize(B8 e)[j]=x at*;simp only[V,Dz]
  (refine lV A0u λK z=>?_;apply z;clear z K;try simp only[A4,])
  refine⟨rfl,?_⟩;refine A0.bb ?_;unfold A6p at*;rw[B6]at I
  (refine sQ A0u λK z=>?_;refine Ap O ?_;refine⟨Wj _,by(try simp only[Dj,B6,Bc]);unfold lim;omega,?_⟩;(try refine Ap O ?_);apply z;clear z K)
  by_cases k3:x.kind=3
  .have d3:decide (x.kind=3)=true:=Bj k3;rw[A8 (.inl k3)]at I E;refine Ak d3 A0u ?_;refine A0.tt rfl ?_
   (refine A0.E6o [0,1,2,3,4,6,7,19,900,2000003] [] 9 4 23 25 gk mixed (by decide +kernel) (by decide +kernel) _ rfl rfl rfl rfl rfl (by simp only[M1]) (by simp only[Iw]) (by simp only[Iw];rfl) λK z=>?_;refine ev ?_;refine⟨by simp,by(try simp only[Dj,B6,Bc,Bg,Ca]at*);unfold lim;omega,?_⟩;(try refine ev ?_);refine⟨by omega,by simp,A9u,Bo x.type,by simp,rfl,by decide,?_⟩;(try refine ev ?_);apply z;clear z K;try simp only[Ac])
   refine⟨rfl,?_⟩;simp[ble,A7,E,Dj,Bo]
  by_cases k5:x.kind=5
  .have d5:decide (x.kind=5)=true:=Bj k5;rw[A8 (.inr k5)]at I E;refine Ei d5 k3 A0u ?_;refine A0.tt rfl ?_
   (refine A0.E6o [0,1,2,3,4,6,7,19,900,2000003] [] 9 4 23 25 gk mixed (by decide +kernel) (by decide +kernel) _ rfl rfl rfl rfl rfl (by simp only[M1]) (by simp only[Iw]) (by simp only[Iw];rfl) λK z=>?_;refine ev ?_;refine⟨by simp,by(try simp only[Dj,B6,Bc,Bg,Ca]at*);unfold lim;omega,?_⟩;(try refine ev ?_);refine⟨by omega,by simp,A9u,Bo x.type,by simp,rfl,by decide,?_⟩;(try refine ev ?_);apply z;clear z K;try simp only[Ac])
   refine⟨rfl,?_⟩;simp[ble,A7,E,Dj,Bo]
  .rw[A6 (by rintro(h|h) <;> contradiction),Fj]at E;refine Ei k3 k5 A0u ?_;refine A0.ff rfl (A0.kk ⟨rfl,?_⟩);simp[ble,A7,E,Dj]
 .intro Y hP hN Z hg;refine D1i (λ_=>true) e Y ⟨hP,by rw[hN];omega,λi x V=>?_⟩;rw[Z,hg];simp[V]
 .intro j L _;rw[J]at L;obtain rfl:=X9 L;simp only[A4,Ac];refine u1 _ _ (A0.ww (sl':=[(3,.box 3 0)]) (bx':=[(3,.cells [.acc 900]),(900,.rows 3 (Ax (Nb (B8 e))))]) ⟨.inr (.inl rfl),trivial⟩ ⟨rfl,by rw[Ci];rfl,trivial⟩ ?_);refine sR A0u ?_;exact aR
 .intro L;rw[J]at L;cases L
abbrev A0w:List Nat:=[0,1,4,5,7,8,9,10,11]
def G7m(l:List Ty)(Z:l.length<=2900000000000)(hs:∀t,t∈l->t.Sm):Aa prog 109 [.d (.slice (Ax l)),.Bf 110 []] (.d (.slice (Ax l))):=by
 refine cB func109 ?_;refine sR A0w ?_;refine sR A0w ?_;refine A0.pp 5 3 5 rfl<|kR A0w λV u1=>?_;refine A0.bb (A0.ii l (X:=Unit) (λj _=>[(1,.Bf 110 []),(5,.acc 5),(8,.d (.slice (Ax l))),(9,A5 l.length),(10,A5 j)]) (λj _=>[(5,.rows 3 (Ax (l.take j)))])
  (λ_ _=>True) () trivial sS (by simp[ble,A7,Dj]) ?_ ?_)
 rotate_left
 .intro j _ u L E W tk J _;have O:=(Az.1 L).1;have I:=A3r u (hs u E);rw[tk];refine Ak J A0w ?_;refine A0.Er rfl<|sK λU u2=>A0.bb ?_
  (refine sV A0w λK z=>?_;refine ci (Et L) ?_;apply z;clear z K)
  (refine lV A0w λK z=>?_;refine cc I ?_;refine⟨by simp,by(try simp only[D4]);unfold lim;omega,?_⟩;(try refine ev ?_);apply z;clear z K;try simp only[A4,Ac])
  refine u2 _ _ ?_;clear u2 U
  (refine lV A0w λK z=>?_;refine cl ?_;apply z;clear z K;try simp only[A4,])
  exact⟨(),trivial,sS,by simp[ble,A7,Dj,Bo,Ty.name,Ty.args,Ty.pos]⟩
 intro _ _;rw[Ci];refine Ak B3 A0w ?_;refine A0.stop rfl ?_;simp only[A4,Ac,Af];refine u1 _ _ ?_;clear u1 V;refine sR A0w ?_;exact aR
def C3y{p:Prog}(h:p.Sm):∀t,t∈Q0 p->t.Sm:=by
 have I:∀e:Ex,e.Sm->∀x,x∈B8 e->ExQ Ty.Sm x:=λe L x I=>by have:=A8n (Q:=Ex.Sm) (λe h x I=>h.kids.2 x I) e L x I;exact⟨λ_=>this.type,this.targs.2⟩
 have hs:∀s:A3,s.Sm->B3e Ty.Sm s:=λs hs=>⟨λf E=>(hs.A1.2 f E).bound,λf E=>(hs.params.2 f E).type,hs.result⟩;refine F2t (λd hd=>?_) (I p.main h.main);have hd:=h.decls.2 d hd;exact⟨λf E=>(hd.A1.2 f E).bound,λf E=>(hd.fields.2 f E).type,λs J=>hs s (hd.sigs.2 s J),λ_=>hs _ hd.sig,λ_=>I _ hd.body⟩
abbrev N3:List Nat:=[0,1,2,3,5,7,9,10,11,12,26,27,28,29,39]
def D2i(p:Prog)(L:p.Le)(aa:∀t,t∈Q0 p->t.Sm):Aa prog 46 [Ct p] (.d (.slice (Ax (Q0 p)))):=by
 have aq:=L.A8x;have ac:=E5h p.main L.main;have ag:=L.main.Da;have af:=F7m L.A8x L.decls;have O:=G7m (Q0 p) (by have:=C3b L;omega) aa;unfold Q0 at O |-;rw[D3r]at O |-;refine cB func46 ?_;refine sR N3 ?_;refine sR N3 ?_;refine A0.pp 3 3 3 rfl<|kR N3 λK1 u1=>?_;refine A0.bb (A0.ii p.decls (X:=Unit) (λj _=>[(1,.box 1 0),(3,.acc 3),(9,.d (.slice (C1 p.decls))),(10,A5 p.decls.length),(11,A5 j)]) (λj _=>[(1,.cells ((Aj p).map .d)),(3,.rows 3 (Ax (Up (p.decls.take j))))])
  (λ_ _=>True) () trivial sS (by simp[ble,A7,Up,Dj,Aj]) ?_ ?_)
 rotate_left
 .intro j _ d hd a1 dp tk a' _;have a6:=af j;have E:=L.decls d a1;have a9:=E.A1;have a4:=E.fields;have ao:=E.A7e;have ab:=H4g E.A7e E.sigs;have a7:=E4s d.A1 a9;have a5:=E3s d.fields a4;have ae:=D4z d.sig E.sig;have ad:=E5h d.body E.body;have aj:=B7d E.sig;have ar:=E.body.Da;have W:=D2r [Lc d.A1,Li d.fields] (show 2<=sm by decide) (by simp only[Ck,G3,J5,List.sum_nil,Lc,Li,Bc];unfold sm;omega);have a2:=D2r [Qw d.sig,R4 d.body] (show 2<=sm by decide) (by simp only[Ck,G3,J5,List.sum_nil];unfold sm;omega);simp only[Qa,Ck,G3,Ao6,List.flatten_nil,Fj]at W a2;rw[tk];have Z:Up (p.decls.take j++[d])=Up (p.decls.take j)++(Lc d.A1++Li d.fields)++Sw d.sigs++A0p d:=by simp[Up,A8r]
  rw[Z];have ah:(Lc d.A1++Li d.fields).length<=4000:=by simp only[Lc,Li,B6,Bc];omega
  generalize Up (p.decls.take j)=A at*;generalize Lc d.A1++Li d.fields=FP at*;refine Ak a' N3 ?_;refine A0.Er rfl<|sK λK2 u2=>A0.bb ?_
  (refine sV N3 λK z=>?_;refine ci (Dx hd) ?_;apply z;clear z K)
  (refine sG N3 [] 9 [] λK z=>?_;refine ev ?_;refine cc a7 ?_;refine cc a5 ?_;refine cc W ?_;refine⟨Wj _,by(try simp only[Dj,Bc]);unfold lim;omega,?_⟩;(try refine ev ?_);apply z;clear z K)
  refine kR N3 λK3 u3=>?_;refine A0.bb (A0.ii d.sigs (X:=Unit) (λi _=>[(1,.box 1 0),(3,.acc 3),(5,.box 5 0),(9,.d (.slice (C1 p.decls))),(10,A5 p.decls.length),(11,A5 j),(26,.d (.slice (B0 d.sigs))),(27,A5 d.sigs.length),(28,A5 i)]) (λi _=>[(1,.cells ((Aj p).map .d)),(3,.rows 3 (Ax (A++FP++Sw (d.sigs.take i)))),(5,.cells (deS d))])
   (λ_ _=>True) () trivial sS (by simp[ble,A7,Sw,Dj,Aj]) ?_ ?_)
  rotate_left
  .intro i _ u hu I a3 J a0 _;have am:=(Az.1 hu).1;have ak:=B7d (E.sigs u I);have a8:=D4z u (E.sigs u I);have ap:=ab i;rw[J,show Sw (d.sigs.take i++[u])=Sw (d.sigs.take i)++Qw u by simp[Sw],<-Ga];generalize Sw (d.sigs.take i)=B at*;generalize Qw u=U at*;refine Ak a0 N3 ?_;refine A0.Er rfl<|sK λK4 u4=>A0.bb ?_
   (refine sV N3 λK z=>?_;refine ci (D1 hu) ?_;apply z;clear z K)
   (refine lV N3 λK z=>?_;refine cc a8 ?_;refine⟨Wj _,by(try simp only[B6]);unfold lim;omega,?_⟩;(try refine ev ?_);apply z;clear z K;try simp only[A4,Ac])
   refine u4 _ _ ?_;clear u4 K4
   (refine lV N3 λK z=>?_;refine cl ?_;apply z;clear z K;try simp only[A4,])
   exact⟨(),trivial,sS,by simp[ble,A7,Dj,Aj]⟩
  intro _ _;rw[Ci];refine Ak B3 N3 ?_;refine A0.stop rfl ?_;simp only[A4,Ac,Af];refine u3 _ _ ?_;clear u3 K3;have ai:=C8v E.A7e E.sigs;generalize Sw d.sigs=B at*;by_cases k3:d.kind=3
  .have d3:=Bj k3;have ag:(Qw d.sig++R4 d.body).length<=6001:=by rw[B6];omega
   have V:A0p d=Qw d.sig++R4 d.body:=by unfold A0p;rw[A8 k3]
   generalize Qw d.sig++R4 d.body=M at*;refine Ak d3 N3 ?_;refine A0.tt rfl ?_
   (refine lG N3 [] 9 [] λK z=>?_;refine ev ?_;refine cc ae ?_;refine cc ad ?_;refine cc a2 ?_;refine⟨Wj _,by(try simp only[B6]);unfold lim;omega,?_⟩;(try refine ev ?_);apply z;clear z K;try simp only[A4,Ac])
   refine u2 _ _ ?_;clear u2 K2
   (refine lV N3 λK z=>?_;refine cl ?_;apply z;clear z K;try simp only[A4,])
   exact⟨(),trivial,sS,by simp[ble,A7,Dj,Aj,V]⟩
  .have V:A0p d=[]:=by unfold A0p;rw[A6 k3]
   refine Ak k3 N3 ?_;refine A0.ff rfl (A0.kk (u2 _ _ ?_));clear u2 K2
   (refine lV N3 λK z=>?_;refine cl ?_;apply z;clear z K;try simp only[A4,])
   exact⟨(),trivial,sS,by simp[ble,A7,Dj,Aj,V]⟩
 intro _ _;rw[Ci];have a6:=C5h L.A8x L.decls;refine Ak B3 N3 ?_;refine A0.stop rfl ?_;simp only[A4,Ac,Af];refine u1 _ _ ?_;clear u1 K1;refine A0.F1e [1,2] [] 5 3 [(1,.box 1 0),(55,.d (.slice (Ax (Up p.decls)++Ax (R4 p.main))))] [(1,.cells ((Aj p).map .d))] (by decide +kernel) (by decide +kernel) ?_ λK hK=>?_
 .refine ev ?_;refine⟨_,.inl ⟨_,rfl,ac,rfl⟩,?_⟩
  (try refine ev ?_)
  refine⟨Wj _,by(try simp only[Dj,B6,Bc]);unfold lim;omega,?_⟩
  (try simp -implicitDefEqProofs only[EV,As4,As5,Nat.reduceAdd,Nat.reduceEqDiff,Nat.reduceBEq,Nat.reduceLeDiff,Nat.reduceSub,Nat.reduceMul,Int.reduceEq,Int.reduceLT,Int.reduceLE,Int.reduceSub,Int.reduceAdd,Int.reduceToNat,reduceCtorEq,Int.reduceNeg,Ih,TF4,Ka,A1z,M1,Iv,Xz,W4,A9j,B4c,Qb,R8,C9d,B8u,E0x,Iw])
  exact⟨_,_,rfl,⟨.inr (.inl rfl),.inr (.inl rfl),trivial⟩,⟨rfl,trivial⟩⟩
 refine ev ?_;refine⟨_,.inl ⟨_,rfl,O,rfl⟩,?_⟩
 (try refine ev ?_)
 refine hK _ _ ?_;clear hK K;exact aR
def G9s(p:Prog)(I:p.Le)(E:p.Sm):Aa prog 46 [Ct p] (.d (.slice (Ax (Q0 p)))):=D2i p I (C3y E)
def G4m(f:FuncId)(ys:List D)(x:Decl)(b:Bool)(h:I9 prog (.cl f ys) [Ia x] (Aw b)):Aa prog 147 [Ia x,.A9 [.cl f ys] 0] (Aw (!b)):=by
 refine cB func147 ?_;refine sR [0,1,2,3] ?_
 (refine sV [0,1,2,3] λK z=>?_;refine⟨_,Nd rfl h rfl,?_⟩;(try refine ev ?_);apply z;clear z K)
 exact aR
def G9b(f:FuncId)(ys:List D)(x:A3)(b:Bool)(h:I9 prog (.cl f ys) [Cy x] (Aw b)):Aa prog 149 [Cy x,.A9 [.cl f ys] 0] (Aw (!b)):=by
 refine cB func149 ?_;refine sR [0,1,2,3] ?_
 (refine sV [0,1,2,3] λK z=>?_;refine⟨_,Nd rfl h rfl,?_⟩;(try refine ev ?_);apply z;clear z K)
 exact aR
def G7s(f:FuncId)(ys:List D)(p:Decl->Bool)(l:List Decl)(J:l.length<=sm)(h:∀x,x∈l->I9 prog (.cl f ys) [Ia x] (Aw (p x))):Aa prog 77 [.d (.slice (C1 l)),.d (.cl f ys)] (Aw (l.all p)):=by
 have I:=E1j 147 [.ptr [.cl f ys]] (λx=>!p x) l J λx E=>⟨_,[.A9 [.cl f ys] 0],_,_,rfl,⟨⟨rfl,rfl⟩,trivial⟩,rfl,G4m f ys x _ (h x E)⟩;have e:l.all p = !(l.any λx=>!p x):=by rw[List.not_any_eq_all_not];simp
 rw[e];generalize l.any (λx=>!p x)=b at*;refine cB func77 ?_;refine sR [0,1,3,4] ?_
 (refine A0.zz 3 rfl rfl (wk [(0,.d (.slice (C1 l))),(3,.A9 [.cl f ys] 0)] [] ?_))
 (refine A0.D7 [0,1,3,4] [800006] (by decide +kernel) λK z=>?_;refine ev ?_;refine⟨_,Lz (xs:=[.A9 [.cl f ys] 0]) (ys:=[.ptr [.cl f ys]]) ⟨⟨rfl,rfl⟩,trivial⟩ rfl,?_⟩;(try refine ev ?_);refine cc I ?_;apply z;clear z K)
 exact aR
def G7f(f:FuncId)(ys:List D)(p:A3->Bool)(l:List A3)(J:l.length<=sm)(h:∀x,x∈l->I9 prog (.cl f ys) [Cy x] (Aw (p x))):Aa prog 79 [.d (.slice (B0 l)),.d (.cl f ys)] (Aw (l.all p)):=by
 have I:=D3f 149 [.ptr [.cl f ys]] (λx=>!p x) l J λx E=>⟨_,[.A9 [.cl f ys] 0],_,_,rfl,⟨⟨rfl,rfl⟩,trivial⟩,rfl,G9b f ys x _ (h x E)⟩;have e:l.all p = !(l.any λx=>!p x):=by rw[List.not_any_eq_all_not];simp
 rw[e];generalize l.any (λx=>!p x)=b at*;refine cB func79 ?_;refine sR [0,1,3,4] ?_
 (refine A0.zz 3 rfl rfl (wk [(0,.d (.slice (B0 l))),(3,.A9 [.cl f ys] 0)] [] ?_))
 (refine A0.D7 [0,1,3,4] [800006] (by decide +kernel) λK z=>?_;refine ev ?_;refine⟨_,Lz (xs:=[.A9 [.cl f ys] 0]) (ys:=[.ptr [.cl f ys]]) ⟨⟨rfl,rfl⟩,trivial⟩ rfl,?_⟩;(try refine ev ?_);refine cc I ?_;apply z;clear z K)
 exact aR
def H0w(s:A3):Aa prog 74 [Cy s] (Aw (decide (s.A1.length=0))):=by
 have e:decide (s.A1.length=0)=decide ((s.A1.length:Int)=0):=by simp
 rw[e];refine cB func74 ?_;refine sR [0,1,2] ?_;refine sR [0,1,2] ?_;exact aR
abbrev A4j:List Nat:=[0,1,2,3,5,6,10,2000002]
def F1k(e:Ex):Aa prog 75 [D3 e] (Aw (Q8 e)):=by
 have hA:=D6a e;have U:Q8 e=I1 (λx=>decide (x.targs.length=0)) (B8 e):=rfl;rw[U];refine cB func75 ?_;refine sR A4j ?_;refine kC hA A4j λK1 u1=>?_;refine A0.bb (A0.rangeFunc (caps:=[.A9 (Cg e) 0]) (caps':=[.A9 (Cg e) 0]) (f:=144) (r:=.tuple []) (N:=(B8 e).length) (xs:=λi=>D3 (((B8 e)[i]?).getD e)) (go:=λi=>decide ((((B8 e)[i]?).getD e).targs.length=0)) (jump:=.ret) (ks:=[2000002]) (slR:=[(2,.box 2000002 0)])
  (mb:=λ_=>[(2000002,.cells [.d (.bool false)])]) (st:=Iy (λx=>decide (x.targs.length=0)) 0 (B8 e)) ⟨⟨_,rfl⟩,by decide,by decide,rfl,λ_=>rfl,by decide,λ_=>rfl,?_⟩ (λ_=>by simp) rfl rfl ?_ ⟨.inr (.inl rfl),trivial⟩ ⟨rfl,trivial⟩ ?_ ?_)
 .intro j I a0 l;have J:=Bi I;generalize(B8 e)[j]=x at J;simp only[J,Dz]
  (refine lV A4j λK z=>?_;apply z;clear z K;try simp only[A4,])
  refine⟨rfl,?_⟩;refine A0.bb ?_;by_cases V:x.targs.length=0
  .have L:¬(x.targs.length:Int) > 0:=by omega
   refine Ak L A4j ?_;refine A0.ff rfl (A0.kk ⟨?_,⟨rfl,trivial⟩⟩);simp only[J,Dz];exact Bj V
  .have L:(x.targs.length:Int) > 0:=by omega
   refine Ak L A4j ?_;refine A0.tt rfl<|sR A4j ?_;refine A0.ret ⟨?_,rfl,⟨rfl,trivial⟩⟩;simp only[J,Dz];exact C9 V
 .intro Y W Z O L;refine D1i _ e Y ⟨W,by rw[Z];omega,λi x J=>?_⟩;rw[O,L];simp[J]
 .intro j I _;have E:I1 (λx=>decide (x.targs.length=0)) (B8 e)=true:=by
   unfold Iy at I;cases h:I1 (λx=>decide (x.targs.length=0)) (B8 e)with
   |true=>rfl
   |false=>rw[h]at I;simp at I
  simp only[A4,Ac];refine u1 _ _ (wk [(2,.box 2 0)] [(2,.cells [.d (.bool false)])] ?_);refine sR A4j ?_;rw[E];exact aR
 .intro I;have E:I1 (λx=>decide (x.targs.length=0)) (B8 e)=false:=by
   unfold Iy at I;cases h:I1 (λx=>decide (x.targs.length=0)) (B8 e)with
   |true=>rw[h]at I;simp at I
   |false=>rfl
  rw[E];exact⟨_,by rw[results75];rfl,rfl⟩
abbrev pl1:D:=.cl 74 []
abbrev pl2:D:=.cl 75 []
def D7v(s:A3):I9 prog pl1 [Cy s] (Aw (decide (s.A1.length=0))):=⟨_,[],_,_,rfl,trivial,rfl,H0w s⟩
def E3o(e:Ex):I9 prog pl2 [D3 e] (Aw (Q8 e)):=⟨_,[],_,_,rfl,trivial,rfl,F1k e⟩
abbrev Ww:List Nat:=[0,1,2,3,4]
def F9o(d:Decl)(hd:d.sigs.length<=sm):Aa prog 78 [Ia d,.A9 [pl1] 0,.A9 [pl2] 0] (Aw (Yu d)):=by
 have J:=G7f 74 [] (λs=>decide (s.A1.length=0)) d.sigs hd λs _=>D7v s;have L:=D7v d.sig;have W:=E3o d.body;rw[show(d.sigs.all λs=>decide (s.A1.length=0))=A2d d.sigs from rfl]at J;have e:Yu d=(decide (d.A1.length=0) && (decide (d.vars.length=0) && (A2d d.sigs && (decide (d.sig.A1.length=0) && Q8 d.body)))):=by
  unfold Yu;rw[Xm];simp only[Bb,Dp];constructor
  .rintro⟨a,b,c⟩;exact⟨by omega,by omega,c,by omega,b⟩
  .rintro⟨a,b,c,f,g⟩;exact⟨by omega,g,c⟩
 rw[e];generalize A2d d.sigs=bs at*;generalize Q8 d.body=be at*;by_cases U:d.A1.length=0;rotate_left
 .have E:¬(d.A1.length:Int)=0:=by omega
  rw[C9 U,C3];refine cB func78 ?_;refine sR Ww ?_;refine Ak E Ww ?_;exact aR
 have E:(d.A1.length:Int)=0:=by omega
 have d1:decide ((d.A1.length:Int)=0)=true:=Bj E;rw[Bj U,Cj];by_cases O:d.vars.length=0;rotate_left
 .have I:¬(d.vars.length:Int)=0:=by omega
  rw[C9 O,C3];refine cB func78 ?_;refine sR Ww ?_;refine Ei d1 I Ww ?_;exact aR
 have I:(d.vars.length:Int)=0:=by omega
 have d2:decide ((d.vars.length:Int)=0)=true:=Bj I;rw[Bj O,Cj];cases bs with
 |false =>
  refine cB func78 ?_;refine sR Ww ?_
  (refine sQ Ww λK z=>?_;refine Fm d1 d2 ?_;refine cc J ?_;apply z;clear z K)
  exact aR
 |true =>
  rw[Cj];by_cases V:d.sig.A1.length=0
  .rw[Bj V]at L |-;rw[Cj];refine cB func78 ?_;refine sR Ww ?_
   (refine sQ Ww λK z=>?_;refine Fm d1 d2 ?_;refine cc J ?_;refine⟨_,Nd rfl L rfl,?_⟩;(try refine ev ?_);refine⟨_,Nd rfl W rfl,?_⟩;(try refine ev ?_);apply z;clear z K)
   exact aR
  .rw[C9 V]at L |-;rw[C3];refine cB func78 ?_;refine sR Ww ?_
   (refine sQ Ww λK z=>?_;refine Fm d1 d2 ?_;refine cc J ?_;refine⟨_,Nd rfl L rfl,?_⟩;(try refine ev ?_);apply z;clear z K)
   exact aR
abbrev Sh:List Nat:=[0,1,2,4,5,6,8,9,10,11,17]
def F7p(p:Prog)(J:p.Le)(Z:∀t,t∈Q0 p->t.Sm):Aa prog 28 [Ct p] (Aw (A1q p)):=by
 have h1:=D2i p J Z;have h2:=E3o p.main;have h3:=G7s 78 [.ptr [pl1],.ptr [pl2]] Yu p.decls (Cp J.A8x (by decide)) λd hd=>⟨_,[.A9 [pl1] 0,.A9 [pl2] 0],_,_,rfl,⟨⟨rfl,rfl⟩,⟨rfl,rfl⟩,trivial⟩,rfl,F9o d (Cp (J.decls d hd).A7e (by decide))⟩;have a1:=C3b J;have e:A1q p=(A2o (Q0 p) && (Q8 p.main && p.decls.all Yu)):=by unfold A1q;rw[Bool.and_comm (p.decls.all Yu)]
 rw[e];generalize Q0 p=l at*;generalize p.decls.all Yu=b2 at*;generalize Q8 p.main=b1 at*;have L:Cb prog 129=some [.d .Fh]:=by kernel_rfl
 have U:Cb prog 97=some [.d .Fh]:=by kernel_rfl
 have V:Be prog 129=some 1:=by kernel_rfl
 have W:Be prog 97=some 1:=by kernel_rfl
 have I:Cr prog 97=some false:=by kernel_rfl
 refine cB func28 ?_;refine sR Sh ?_;refine kC h1 Sh λK1 u1=>?_;refine A0.bb (A0.ii l (X:=Unit) (λj _=>[(1,.box 1 0),(8,.d (.slice (Ax l))),(9,A5 l.length),(10,A5 j)]) (λ_ _=>[(1,.cells ((Aj p).map .d))])
  (λj _=>A2o l=A2o (l.drop j)) () rfl sS (by simp[ble,A7,Aj]) ?_ ?_)
 rotate_left
 .intro j _ u hu a0 dp tk O E;rw[dp,show A2o (u::l.drop (j+1))=(decide (u.args.length=0) && A2o (l.drop (j+1))) from rfl]at E;refine Ak O Sh ?_;refine A0.Er rfl<|sK λK2 u2=>A0.bb ?_
  (refine sV Sh λK z=>?_;refine ci (Et hu) ?_;apply z;clear z K)
  by_cases hz:u.args.length=0
  .have hg:¬(u.args.length:Int) > 0:=by omega
   rw[Bj hz,Cj]at E;refine Ak hg Sh ?_;refine A0.ff rfl (A0.kk (u2 _ _ ?_));clear u2 K2
   (refine lV Sh λK z=>?_;refine cl ?_;apply z;clear z K;try simp only[A4,])
   exact⟨(),E,sS,by simp[ble,A7,Aj]⟩
  .have hg:(u.args.length:Int) > 0:=by omega
   rw[C9 hz,C3]at E;rw[show A2o l=false from E,C3];refine Ak hg Sh ?_;refine A0.tt rfl<|sR Sh ?_;exact aR
 intro _ E;rw[Db]at E;rw[show A2o l=true from E,Cj]at u1 |-;clear E;refine Ak B3 Sh ?_;refine A0.stop rfl ?_;simp only[A4,Ac,Af];refine u1 _ _ ?_;clear u1 K1;refine Ei L V Sh ?_;refine Ei U W Sh ?_;refine A0.A0v 5 rfl rfl<|A0.A0v 6 rfl rfl<|wk [(1,.box 1 0),(5,.A9 [pl1] 0),(6,.A9 [pl2] 0)] [(1,.cells ((Aj p).map .d))] ?_;cases b1 with
 |false =>
  (refine sQ Sh λK z=>?_;refine Ap I ?_;refine⟨_,Nd rfl h2 rfl,?_⟩;(try refine ev ?_);apply z;clear z K)
  exact aR
 |true =>
  rw[Cj]
  (refine A0.D7 Sh [800026] (by decide +kernel) λK z=>?_;refine Ap I ?_;refine⟨_,Nd rfl h2 rfl,?_⟩;(try refine ev ?_);refine⟨_,Lz (xs:=[.A9 [pl1] 0,.A9 [pl2] 0]) (ys:=[.ptr [pl1],.ptr [pl2]]) ⟨⟨rfl,rfl⟩,⟨rfl,rfl⟩,trivial⟩ rfl,?_⟩;(try refine ev ?_);refine cc h3 ?_;apply z;clear z K)
  exact aR
def D5k(p:Prog)(I:p.Le)(E:p.Sm):Aa prog 28 [Ct p] (Aw (A1q p)):=F7p p I (C3y E)
def C1z(s:A2):Aa prog 34 [Bm s] (B7 (.mk s [] 0)):=by refine cB func34 ?_;refine sR [0,2] ?_;refine sR [0,2] ?_;exact aR
def C3t(p:Prog)(s:A2):List A2:=(C7 p [] (.mk s [] 0)).map (·.name)
def C8g{s:A2}(hs:s.length<=60000000*sm):(Ty.mk s [] 0).Sm:=.mk _ _ _ hs (by simp) (by simp)
abbrev A0c:List Nat:=[0,1,2,4,5,7,12,13,14,15]
def G9j(p:Prog)(h:p.Sm)(s:A2)(hs:s.length<=sm):Aa prog 16 [Ct p,Bm s] (Cc (C3t p s)):=by
 have L:=C0p p h;have O:=C1z s;have U:=C6q p h [] (by simp) (by simp) (.mk s [] 0) (C8g (Cp hs (by decide)));have hl:=Wi h [] (.mk s [] 0);unfold C3t;generalize C7 p [] (.mk s [] 0)=l at*;refine cB func16 ?_;refine sR A0c ?_;refine sR A0c ?_;refine A0.pp 5 1 5 rfl<|sK λW u1=>?_
 (refine sV A0c λK z=>?_;refine cc L ?_;refine cc O ?_;refine cc U ?_;apply z;clear z K)
 refine A0.bb (A0.ii l (X:=Unit) (λj _=>[(5,.acc 5),(12,.d (.slice (B0 l))),(13,A5 l.length),(14,A5 j)]) (λj _=>[(5,.rows 1 (Bq ((l.take j).map (·.name))))])
  (λ_ _=>True) () trivial sS (by simp[ble,A7,Bq]) ?_ ?_)
 rotate_left
 .intro j _ u J I Z tk E _;rw[tk];refine Ak E A0c ?_;refine A0.Er rfl<|sK λV u2=>A0.bb ?_
  (refine sV A0c λK z=>?_;refine ci (D1 J) ?_;apply z;clear z K)
  (refine lV A0c λK z=>?_;refine⟨by simp,by(try simp only[Bc,D4]);unfold lim sm at*;omega,?_⟩;(try refine ev ?_);apply z;clear z K;try simp only[A4,Ac])
  refine u2 _ _ ?_;clear u2 V;refine lT A0c ?_;exact⟨(),trivial,sS,by simp[ble,A7,Bq]⟩
 intro _ _;rw[Ci];refine Ak B3 A0c ?_;refine A0.stop rfl ?_;simp only[A4,Ac,Af];refine u1 _ _ ?_;clear u1 W;refine sR A0c ?_;exact aR
def C1n(p:Prog)(h:p.Sm)(a b:A2)(U:a.length<=60000000*sm)(O:b.length<=60000000*sm):Aa prog 11 [Ct p,Bm a,Bm b] (Aw (Cv p [] (.mk a [] 0) (.mk b [] 0))):=by
 have I:=C0p p h;have J:=C1z a;have L:=C1z b;have E:=G1r p h [] (by simp) (by simp) _ _ (C8g U) (C8g O);generalize Cv p [] (.mk a [] 0) (.mk b [] 0)=z at*;refine cB func11 ?_;refine sR [0,1,2,3,6] ?_
 (refine sV [0,1,2,3,6] λK z=>?_;refine cc I ?_;refine cc J ?_;refine cc L ?_;refine cc E ?_;apply z;clear z K)
 exact aR
structure Qz(Y:Gx)(j:Nat)(l:List A2):Prop where
 P:Y.P=prog
 N:j+l.length<=Y.N
 at_:∀i s,l[i]?=some s->Y.xs (j+i)=Bm s/\Y.go (j+i)=true
theorem Qz.left{Y:Gx}{j:Nat}{l m:List A2}(h:Qz Y j (l++m)):Qz Y j l where
 P:=h.P
 N:=by have:=h.N;rw[B6]at this;omega
 at_:=λi e E=>h.at_ i e (by rw[L4 (Az.1 E).1];exact E)
def Qz.right{Y:Gx}{j:Nat}{l m:List A2}(h:Qz Y j (l++m)):Qz Y (j+l.length) m where
 P:=h.P
 N:=by have:=h.N;rw[B6]at this;omega
 at_:=λi e E=>by have:=h.at_ (l.length+i) e (by rw[Kd (by omega)];simpa using E);rw[Si];exact this
abbrev A3a:List Nat:=[0,1,4,5,7,8,9,16,1000000]
def G3h(f:FuncId)(caps:List SV)(V:∀x:Ty,G7 [] (B7 x::caps)=some (B7 x::caps))(Y:Gx)(l:List Ty)(hl:l.length<=lim)(I:Nat)(E:Qz Y I (Ty.Dw l))
  (hc:∀e,e∈l->∀j,Qz Y j e.names->C8 prog f (B7 e::caps) [(1000000,.ghost Y (some j))] (Aw false) [(1000000,.ghost Y (some (j+e.names.length)))]) :
  C8 prog 270 [.d (.slice (Ax l)),.Bf f caps] [(1000000,.ghost Y (some I))] (A5 (-1)) [(1000000,.ghost Y (some (I+(Ty.Dw l).length)))]:=by
 refine bB func270 ?_;refine sR A3a ?_;refine kR A3a λK1 u1=>?_;refine A0.bb (A0.ii l (X:=Unit) (λj _=>[(0,.d (.slice (Ax l))),(1,.Bf f caps),(7,A5 l.length),(8,A5 j)]) (λj _=>[(1000000,.ghost Y (some (I+(Ty.Dw (l.take j)).length)))])
  (λ_ _=>True) () trivial sS (by simp[ble,A7,Ty.Dw]) ?_ ?_)
 .intro _ _;rw[Ci];refine Ak B3 A3a ?_;refine A0.stop rfl ?_;simp only[A4,Ac,Af];refine u1 _ _<|sR A3a ?_;exact A0.ret ⟨_,by rw[results270];rfl,.inr rfl,by simp[ble,A7]⟩
 .intro j _ d hd J Z tk L _;have U:Qz Y (I+(Ty.Dw (l.take j)).length) d.names:=by
   have W:l=l.take j++(d::l.drop (j+1)):=by rw[<-Z,Uz]
   rw[W,Ty.A8o,Ty.Dw]at E;exact E.right.left
  have O:=hc d J _ U;refine Ak L A3a ?_;refine A0.Er rfl<|sK λK2 u2=>A0.bb<|sR A3a ?_
  (refine A0.D7 A3a [700016] (by decide +kernel) λK z=>?_;refine ev ?_;refine ci (Et hd) ?_;refine⟨_,_,_,V d,O,rfl,?_⟩;(try refine ev ?_);apply z;clear z K)
  refine A0.ff rfl (A0.kk (u2 _ _ ?_));clear u2 K2
  (refine lV A3a λK z=>?_;refine⟨by first| (unfold B4;omega)| (simp only[B4,lim]at*;omega),?_⟩;(try refine ev ?_);apply z;clear z K;try simp only[A4,])
  refine⟨(),trivial,sS,?_⟩;rw[tk,Ty.A8o,show Ty.Dw [d]=d.names by simp[Ty.Dw],B6,<-Si];simp[ble,A7]
def F0q(f:FuncId)(caps:List SV)(L:G7 [] caps=some caps)(J:∀x:Ty,G7 [] (B7 x::caps)=some (B7 x::caps))(Y:Gx)(l:List Ty)(U:l.length<=lim)(I:Nat)(E:Qz Y I (Ty.Dw l))
  (O:∀e,e∈l->∀j,Qz Y j e.names->C8 prog f (B7 e::caps) [(1000000,.ghost Y (some j))] (Aw false) [(1000000,.ghost Y (some (j+e.names.length)))]) :
  C8 prog 183 [.d (.slice (Ax l)),.Bf f caps] [(1000000,.ghost Y (some I))] (Aw false) [(1000000,.ghost Y (some (I+(Ty.Dw l).length)))]:=by
 have h:=G3h f caps J Y l U I E O;refine bB func183 ?_;refine sR [0,1,4,1000000] ?_
 (refine A0.D7 [0,1,4,1000000] [700007] (by decide +kernel) λK z=>?_;refine ev ?_;refine⟨_,_,_,(by rw[L]),h,rfl,?_⟩;(try refine ev ?_);apply z;clear z K)
 exact A0.ret ⟨_,by rw[results183];rfl,.inr rfl,by simp[ble,A7]⟩
abbrev B5m:List Nat:=[0,1,2,3,4,5,10,1000000]
def F8w(Y:Gx):∀(e:Ty)(j:Nat),Qz Y j e.names->C8 prog 112 [B7 e,.Eo Y.l] [(1000000,.ghost Y (some j))] (Aw true) [(1000000,.ghost Y (some (j+e.names.length)))]:=by
 intro e
 induction e using Ty.induct with
 |h e ih =>
 intro j E;refine C8.bd (Enters.of func112 rfl (by decide)) λV=>?_;have W:=(C2r V.1).len;have hP:=E.P;have Z:=E.at_ 0 e.name (by rw[Ty.Xf];rfl);have hN:j<Y.N:=by have:=E.N;rw[Ty.Xf,Bg]at this;omega
 rw[Ma]at Z;have a0:∀k,k∈e.args->∀i,Qz Y i k.names->C8 prog 182 [B7 k,.F5 [.Eo Y.l] 0] [(1000000,.ghost Y (some i))] (Aw false) [(1000000,.ghost Y (some (i+k.names.length)))]:=by
  intro k hk i hi;have:=ih k hk i hi;refine bB func182 ?_;refine sR [0,1,2,3,1000000] ?_
  (refine A0.D7 [0,1,2,3,1000000] [700006] (by decide +kernel) λK z=>?_;refine ev ?_;refine⟨_,_,_,rfl,this,rfl,?_⟩;(try refine ev ?_);apply z;clear z K)
  exact A0.ret ⟨_,by rw[results182];rfl,.inr rfl,by simp[ble,A7]⟩
 have U:Qz Y (j+1) (Ty.Dw e.args):=by have:=E;rw[Ty.Xf,show e.name::Ty.Dw e.args=[e.name]++Ty.Dw e.args from rfl]at this;exact this.right
 have O:=F0q 182 [.F5 [.Eo Y.l] 0] rfl (λ_=>rfl) Y e.args W (j+1) U a0;have J:j+e.names.length=j+1+(Ty.Dw e.args).length:=by rw[Ty.Xf,Bg];omega
 rw[J];have I:Y.go j=true:=Z.2;have L:Y.next j=some (j+1):=by unfold Gx.next;rw[A8 I]
 generalize j+1+(Ty.Dw e.args).length=st at*;refine bB func112 ?_;refine sR B5m<|sK λK1 u1=>?_
 (refine A0.D7 B5m [700009] (by decide +kernel) λK z=>?_;refine Fm I L ?_;refine⟨_,rfl,hP,hN,Z.1,?_⟩;(try refine Fm I L ?_);apply z;clear z K)
 refine kI u1 ?_;clear u1 K1;refine A0.D5t 3 rfl rfl (wk [(2,.box 2 0),(3,.F5 [.Eo Y.l] 0),(4,.d (.bool false))] [(2,.cells (Pa e)),(1000000,.ghost Y (some (j+1)))] ?_);refine sR B5m ?_
 (refine A0.D7 B5m [700015] (by decide +kernel) λK z=>?_;refine ev ?_;refine⟨_,_,_,rfl,O,rfl,?_⟩;(try refine ev ?_);apply z;clear z K)
 exact A0.ret ⟨_,by rw[results112];rfl,.inr rfl,by simp[ble,A7]⟩
def G9d(e:Ty):C8 prog 47 [B7 e] [] (.Bf 111 [.A9 (Bo e) 0]) []:=by refine bB func47 ?_;refine sR [0,1,2] ?_;refine A0.zz 1 rfl rfl<|sR [0,1,2] ?_;exact A0.ret ⟨_,by rw[results47];rfl,.inr rfl,by simp[ble]⟩
def G6f(e:Ty)(Y:Gx)(I:Qz Y 0 e.names):C8 prog 111 [.Eo Y.l,.A9 (Bo e) 0] [(1000000,.ghost Y (some 0))] (.tuple []) [(1000000,.ghost Y (some e.names.length))]:=by
 have E:=F8w Y e 0 I;rw[Ky]at E;refine bB func111 ?_
 (refine A0.A0n [0,1,1000000] [700005] (by decide +kernel) λK z=>?_;refine ev ?_;refine⟨_,_,_,rfl,E,rfl,?_⟩;(try refine ev ?_);apply z;clear z K;try simp only[A4,Ac,Af])
 exact⟨_,by rw[results111];rfl,.inr rfl,by simp[ble,A7]⟩
def Qn(l:List Decl):List A2:=l.foldl (λm d=>Rw m d.name) []
def F5f(l:List Decl)(d:Decl):Qn (l++[d])=Rw (Qn l) d.name:=by simp[Qn]
def F2w(l:List Decl)(s:A2):∀m:List A2,s∈l.foldl (λm d=>Rw m d.name) m↔s∈m\/∃y,y∈l/\y.name=s:=by
 induction l with
 |nil=>simp
 |cons a l I =>
  intro m;rw[Lo,I,E3g];simp only[B1];constructor
  .rintro((rfl|h)|⟨y,h1,E⟩)
   .exact .inr ⟨a,.inl rfl,rfl⟩
   .exact .inl h
   .exact .inr ⟨y,.inr h1,E⟩
  .rintro(h|⟨y,rfl|h1,E⟩)
   .exact .inl (.inr h)
   .exact .inl (.inl E.symm)
   .exact .inr ⟨y,h1,E⟩
def C4d(l:List Decl)(s:A2):s∈Qn l↔∃y,y∈l/\y.name=s:=by unfold Qn;rw[F2w];simp
def F5z{m:List A2}(h:m.Nodup)(s:A2):(Rw m s).Nodup:=by
 unfold Rw;split
 .exact h
 .rename_i hs;rw[Ao4];exact⟨h,by simp,λa I b E=>by simp at E;subst E;exact λJ=>hs (J ▸ I)⟩
def F4o(l:List Decl):∀m:List A2,m.Nodup->(l.foldl (λm d=>Rw m d.name) m).Nodup:=by
 induction l with
 |nil=>intro m h;exact h
 |cons a l E=>intro m h;exact E _ (F5z h _)
def Im(l ds:List A2):List A2:=ds.foldl List.erase l
def D1j(l a b:List A2):Im l (a++b)=Im (Im l a) b:=by simp[Im]
def D0q:∀(ds:List A2) {l:List A2} {s:A2},l.Nodup->(s∈Im l ds↔s∈l/\s∉ds)
 |[],l,s,h=>by simp[Im]
 |d::ds,l,s,h=>by
  rw[show Im l (d::ds)=Im (l.erase d) ds from rfl,D0q ds (h.erase d),h.mem_erase_iff];simp only[B1,Vc];constructor
  .rintro⟨⟨a,b⟩,c⟩;exact⟨b,a,c⟩
  .rintro⟨b,a,c⟩;exact⟨⟨a,b⟩,c⟩
def E4k:∀(ds:List A2) {l:List A2} {s:A2},s∈Im l ds->s∈l
 |[],l,s,h=>h
 |d::ds,l,s,h=>List.mem_of_mem_erase (E4k ds h)
def E2j(s:A2)(l:List A2):B3j (.str s) (G6 l)=G6 (l.erase s):=by
 unfold B3j;have key:∀(l:List A2) (i:Nat),(s∉l->F9 (D.str s).lits (G6 l) i=none)/\(s∈l->∃j v,F9 (D.str s).lits (G6 l) i=some (i+j,v)/\(G6 l).eraseIdx j=G6 (l.erase s)):=by
  intro l
  induction l with
  |nil=>intro i;simp[G6,F9]
  |cons x l V =>
   intro i;have W:G6 (x::l)=(.str x,.bool true)::G6 l:=rfl;rw[W];simp only[F9];by_cases E:s=x
   .subst E;refine⟨λh=>absurd (Ar4 ..) h,λ_=>⟨0,_,by rw[A8 rfl];rfl,by simp[List.erase_cons_head]⟩⟩
   .have J:¬(D.str s).lits=(D.str x).lits:=by simp[D.lits,D.lit,E]
    rw[A6 J];obtain⟨O,Z⟩:=V (i+1);refine⟨λh=>O λU=>h (by simp[U]),λh=>?_⟩;obtain⟨j,v,I,L⟩:=Z ((B1.1 h).resolve_left E);refine⟨j+1,v,by rw[I];congr 2;omega,?_⟩;rw[List.eraseIdx_cons_succ,L,List.erase_cons_tail (by simpa using Xn E)];rfl
 by_cases h:s∈l
 .obtain⟨j,v,I,L⟩:=(key l 0).2 h;rw[I];simp only[Ky];exact L
 .rw[(key l 0).1 h,List.erase_of_not_mem h]
def Zn(l:List Decl):List A2:=l.flatMap λd=>if d.kind=3 then[d.name]else[]
def C2c(p:Prog):List A2:=Ty.Dw (Q0 p)++Zn p.decls
def Wb(u:List A2)(l:List Decl):List A2:=l.flatMap λd=>if d.name∈u then[]else[d.name]
def C0y(p:Prog):List A2:=Wb (C2c p) p.decls
def E9t(u:List A2)(l:List Decl):(Wb u l).length<=l.length:=by
 have:=B2v (λd:Decl=>if d.name∈u then[]else[d.name]) 1 l λx _=>by split <;> simp
 unfold Wb;omega
mutual
theorem Ty.Sm.names:∀{t:Ty},t.Sm->∀s,s∈t.names->s.length<=60000000*sm
 |.mk n a p,h,s,hs=>by
  rw[Ty.names,B1]at hs;rcases hs with rfl|hs
  .exact h.name
  .exact Ty.Sm.Dw (λt ht=>h.arg t ht) s hs
theorem Ty.Sm.Dw:∀{l:List Ty},(∀t,t∈l->t.Sm)->∀s,s∈Ty.Dw l->s.length<=60000000*sm
 |[],_,s,hs=>by simp[Ty.Dw]at hs
 |t::l,h,s,hs=>by
  rw[Ty.Dw,Bz]at hs;rcases hs with hs|hs
  .exact Ty.Sm.names (h t (by simp)) s hs
  .exact Ty.Sm.Dw (λt ht=>h t (by simp[ht])) s hs
end
abbrev Ge:List Nat:=[0,1,2,3,5,7,8,10,11,13,14,16,17,18,19,27,28,29,30,34,35,40,41,42,43,48,54,55,56,57,63,2000001,2000003,2000014]
def G0u(p:Prog)(hp:p.Le)(h:p.Sm):Aa prog 17 [Ct p] (Cc (C0y p)):=by
 have h1:=G9s p hp h;have af:=C3b hp;have a6:=C3y h;have ag:=hp.A8x;have hU:∀u,u=C2c p->Cc (Wb u p.decls)=Cc (C0y p):=λu W=>by rw[W];rfl
 have a0:Mi prog 9=true:=by kernel_rfl
 have hT:=underlying91;have aa:∀j s,s∈Qn (p.decls.take j)->s.length<=60000000*sm:=λj s hs=>by obtain⟨y,hy,rfl⟩:=(C4d _ _).1 hs;exact(h.decls.2 y (Ji hy)).name
 have a9:(Qn p.decls).Nodup:=F4o _ _ (by simp);have ac:∀s,s∈Qn p.decls->s.length<=lim:=λs hs=>by obtain⟨y,hy,rfl⟩:=(C4d _ _).1 hs;exact Cp (h.decls.2 y hy).name (by decide)
 have O:∀ds,∀kv,kv∈G6 (Im (Qn p.decls) ds)->E7 prog 9 kv.1:=λds=>C4i λs hs=>ac s (E4k ds hs);have a2:∀(d:Decl),d∈p.decls->∀ds,(d.name∈Im (Qn p.decls) ds↔d.name∉ds):=λd hd ds=>by rw[D0q ds a9];exact⟨λh=>h.2,λh=>⟨(C4d _ _).2 ⟨d,hd,rfl⟩,h⟩⟩
 unfold C0y C2c at*;generalize Q0 p=tl at*;refine cB func17 ?_;refine sR Ge ?_;refine sR Ge ?_;refine kR Ge λK1 u1=>?_;refine A0.bb (A0.ii p.decls (X:=Unit) (λj _=>[(1,.box 1 0),(3,.box 3 0),(16,.d (.slice (C1 p.decls))),(17,A5 p.decls.length),(18,A5 j)]) (λj _=>[(1,.cells ((Aj p).map .d)),(3,.cells [.mp 14]),(14,.map (G6 (Qn (p.decls.take j))))])
  (λ_ _=>True) () trivial sS (by simp[ble,A7,Aj,Qn,G6]) ?_ ?_)
 rotate_left
 .intro j _ d hd E dp tk I _;have hk:E7 prog 9 (.str d.name):=A9p _ (Cp (h.decls.2 d E).name (by decide));have J:∀kv,kv∈G6 (Qn (p.decls.take j))->E7 prog 9 kv.1:=C4i λs hs=>Cp (aa j s hs) (by decide);rw[tk,F5f];generalize Qn (p.decls.take j)=L at*;refine Ak I Ge ?_;refine A0.Er rfl<|sK λV u2=>A0.bb ?_
  (refine sV Ge λK z=>?_;refine ci (Dx hd) ?_;apply z;clear z K)
  (refine lQ Ge λK z=>?_;simp -implicitDefEqProofs only[EV,Nat.reduceEqDiff,reduceCtorEq,Ka,R8,B1p,D4p];refine⟨J,hk,?_⟩;apply z;clear z K;try simp only[A4,Ac])
  refine u2 _ _ ?_;clear u2 V
  (refine lV Ge λK z=>?_;refine cl ?_;apply z;clear z K;try simp only[A4,])
  exact⟨(),trivial,sS,by simp[ble,A7,Aj]⟩
 intro _ _;rw[Ci];refine Ak B3 Ge ?_;refine A0.stop rfl ?_;simp only[A4,Ac,Af];refine u1 _ _ ?_;clear u1 K1;generalize Qn p.decls=L at*;refine kC h1 Ge λK1 u1=>?_;refine A0.bb (A0.ii tl (X:=Unit) (λj _=>[(1,.box 1 0),(3,.box 3 0),(27,.d (.slice (Ax tl))),(28,A5 tl.length),(29,A5 j)]) (λj _=>[(1,.cells ((Aj p).map .d)),(3,.cells [.mp 14]),(14,.map (G6 (Im L (Ty.Dw (tl.take j)))))])
  (λ_ _=>True) () trivial sS (by simp[ble,A7,Aj,Im,Ty.Dw]) ?_ ?_)
 rotate_left
 .intro j _ t ht E dp tk I _;have hN:=G9d t;have ab:=a6 t E;rw[tk,Ty.A8o,show Ty.Dw [t]=t.names by simp[Ty.Dw]];have a1:∀i,∀kv,kv∈G6 (Im L (Ty.Dw (tl.take j)++t.names.take i))->E7 prog 9 kv.1:=λi=>O _;generalize Ty.Dw (tl.take j)=A at*;refine Ak I Ge ?_;refine A0.Er rfl<|sK λV u2=>A0.bb ?_
  (refine sV Ge λK z=>?_;refine ci (Et ht) ?_;apply z;clear z K)
  refine sC hN Ge ?_;refine A0.bb (A0.rangeFunc (caps:=[.A9 (Bo t) 0]) (caps':=[.A9 (Bo t) 0]) (f:=111) (r:=.tuple []) (N:=t.names.length) (xs:=λi=>Bm ((t.names[i]?).getD [])) (go:=λ_=>true) (jump:=.ret) (ks:=[2000001,2000003,2000014]) (slR:=[(1,.box 2000001 0),(3,.box 2000003 0),(27,.d (.slice (Ax tl))),(28,A5 tl.length),(29,A5 j)])
   (mb:=λst=>match st with|some i=>[(2000001,.cells ((Aj p).map .d)),(2000003,.cells [.mp 2000014]),(2000014,.map (G6 (Im L (A++t.names.take i))))]|none=>[]) (st:=some t.names.length) ⟨⟨_,rfl⟩,by decide,by decide,rfl,λst=>by cases st <;> rfl,by decide,λ_=>rfl,?_⟩ (λst=>by cases st <;> simp) rfl rfl ?_ ⟨.inr (.inl rfl),.inr (.inl rfl),.inr (.inl rfl),.inr (.inl rfl),.inr (.inl rfl),trivial⟩ ⟨rfl,rfl,by rw[At7,Fj];rfl,trivial⟩ ?_ ?_)
  .intro i Z ah l;have hx:=Bi Z;have a':t.names.take (i+1)=t.names.take i++[t.names[i]]:=by rw[J0 Z]
   have a7:=ab.names t.names[i] (Fq Z);have J:=a1 i;have ad:Im L (A++t.names.take (i+1))=(Im L (A++t.names.take i)).erase t.names[i]:=by rw[a',<-Ga,D1j _ (A++t.names.take i)];rfl
   generalize t.names[i]=s at*;have hk:E7 prog 9 (.str s):=A9p _ (Cp a7 (by decide));simp only[hx,Dz,];generalize Im L (A++t.names.take i)=M at*
   (refine lV Ge λK z=>?_;apply z;clear z K;try simp only[A4,])
   refine⟨rfl,?_⟩;refine A0.bb ?_
   (refine lV Ge λK z=>?_;refine⟨_,_,_,D4s (k:=2000014) rfl (Gu rfl) hT a0 rfl hk J,?_⟩;(try simp -implicitDefEqProofs only[EV,Nat.reduceEqDiff,reduceCtorEq,E2j]);apply z;clear z K;try simp only[Ac])
   exact⟨rfl,rfl,rfl,by rw[ad];rfl,trivial⟩
  .intro Y hP hN a5 hg;refine G6f t Y ⟨hP,by rw[hN];omega,λi x hx=>?_⟩;rw[a5,hg];simp[hx]
  .intro i Z _;obtain rfl:=X9 Z;simp only[A4,Ac];refine u2 _ _ ?_;clear u2 V;refine A0.ww (sl':=[(1,.box 1 0),(3,.box 3 0),(27,.d (.slice (Ax tl))),(28,A5 tl.length),(29,A5 j)]) (bx':=[(1,.cells ((Aj p).map .d)),(3,.cells [.mp 14]),(14,.map (G6 (Im L (A++t.names))))]) ⟨.inr (.inl rfl),.inr (.inl rfl),.inr (.inl rfl),.inr (.inl rfl),.inr (.inl rfl),trivial⟩ ⟨rfl,rfl,by rw[Ci];rfl,trivial⟩ ?_
   (refine lV Ge λK z=>?_;refine cl ?_;apply z;clear z K;try simp only[A4,])
   exact⟨(),trivial,sS,by simp[ble,A7,Aj]⟩
  .intro Z;cases Z
 intro _ _;rw[Ci];refine Ak B3 Ge ?_;refine A0.stop rfl ?_;simp only[A4,Ac,Af];refine u1 _ _ ?_;clear u1 K1;generalize Ty.Dw tl=A at*;refine kR Ge λK1 u1=>?_;refine A0.bb (A0.ii p.decls (X:=Unit) (λj _=>[(1,.box 1 0),(3,.box 3 0),(40,.d (.slice (C1 p.decls))),(41,A5 p.decls.length),(42,A5 j)]) (λj _=>[(1,.cells ((Aj p).map .d)),(3,.cells [.mp 14]),(14,.map (G6 (Im L (A++Zn (p.decls.take j)))))])
  (λ_ _=>True) () trivial sS (by simp[ble,A7,Aj,Zn]) ?_ ?_)
 rotate_left
 .intro j _ d hd E dp tk I _;have hk:E7 prog 9 (.str d.name):=A9p _ (Cp (h.decls.2 d E).name (by decide));have J:=O (A++Zn (p.decls.take j));rw[tk,show Zn (p.decls.take j++[d])=Zn (p.decls.take j)++(if d.kind=3 then[d.name]else[]) by simp[Zn],<-Ga,D1j _ (A++_)];generalize Im L (A++Zn (p.decls.take j))=M at*;refine Ak I Ge ?_;refine A0.Er rfl<|sK λV u2=>A0.bb ?_
  (refine sV Ge λK z=>?_;refine ci (Dx hd) ?_;apply z;clear z K)
  by_cases k3:d.kind=3
  .have d3:=Bj k3;rw[A8 k3,show Im M [d.name]=M.erase d.name from rfl];refine Ak d3 Ge ?_;refine A0.tt rfl ?_
   (refine lV Ge λK z=>?_;refine⟨_,_,_,D4s (k:=14) rfl (Gu rfl) hT a0 rfl hk J,?_⟩;(try simp -implicitDefEqProofs only[EV,Nat.reduceEqDiff,reduceCtorEq,E2j]);apply z;clear z K;try simp only[A4,Ac])
   refine u2 _ _ ?_;clear u2 V
   (refine lV Ge λK z=>?_;refine cl ?_;apply z;clear z K;try simp only[A4,])
   exact⟨(),trivial,sS,by simp[k3,Im,ble,A7,Aj]⟩
  .rw[A6 k3,show Im M []=M from rfl];refine Ak k3 Ge ?_;refine A0.ff rfl (A0.kk (u2 _ _ ?_));clear u2 V
   (refine lV Ge λK z=>?_;refine cl ?_;apply z;clear z K;try simp only[A4,])
   exact⟨(),trivial,sS,by simp[k3,Im,ble,A7,Aj]⟩
 intro _ _;rw[Ci];refine Ak B3 Ge ?_;refine A0.stop rfl ?_;simp only[A4,Ac,Af];refine u1 _ _ ?_;clear u1 K1;generalize A++Zn p.decls=U at*;have J:=O U;have a4:=λd hd=>a2 d hd U;generalize Im L U=M at*;refine sR Ge ?_;refine A0.pp 11 1 11 rfl<|kR Ge λK1 u1=>?_;refine A0.bb (A0.ii p.decls (X:=Unit) (λj _=>[(1,.box 1 0),(3,.box 3 0),(11,.acc 11),(54,.d (.slice (C1 p.decls))),(55,A5 p.decls.length),(56,A5 j)]) (λj _=>[(1,.cells ((Aj p).map .d)),(3,.cells [.mp 14]),(14,.map (G6 M)),(11,.rows 1 (Bq (Wb U (p.decls.take j))))])
  (λ_ _=>True) () trivial sS (by simp[ble,A7,Aj,Wb,Bq]) ?_ ?_)
 rotate_left
 .intro j _ d hd E dp tk I _;have hk:E7 prog 9 (.str d.name):=A9p _ (Cp (h.decls.2 d E).name (by decide));have a3:=a4 d E;have a8:=E9t U (p.decls.take j);rw[tk,show Wb U (p.decls.take j++[d])=Wb U (p.decls.take j)++(if d.name∈U then[]else[d.name]) by simp[Wb]];have ae:(Wb U (p.decls.take j)).length<=200000:=by rw[D4]at a8;omega
  generalize Wb U (p.decls.take j)=B at*;refine Ak I Ge ?_;refine A0.Er rfl<|sK λV u2=>A0.bb ?_
  (refine sV Ge λK z=>?_;refine ci (Dx hd) ?_;apply z;clear z K)
  (refine sQ Ge λK z=>?_;simp -implicitDefEqProofs only[EV,Nat.reduceEqDiff,reduceCtorEq,Ka,R8,B1p,E4f];refine⟨J,hk,?_⟩;apply z;clear z K)
  by_cases W:d.name∈U
  .rw[A8 W,Fj,C9 (λhm=>a3.1 hm W)];refine A0.ff rfl (A0.kk (u2 _ _ ?_));clear u2 V
   (refine lV Ge λK z=>?_;refine cl ?_;apply z;clear z K;try simp only[A4,])
   exact⟨(),trivial,sS,by simp[W,ble,A7,Aj]⟩
  .rw[A6 W,Bj (a3.2 W)];refine A0.tt rfl ?_
   (refine lV Ge λK z=>?_;refine⟨by simp,by(try simp only[Bq,Bc]);unfold lim;omega,?_⟩;(try refine ev ?_);apply z;clear z K;try simp only[A4,Ac])
   refine u2 _ _ ?_;clear u2 V
   (refine lV Ge λK z=>?_;refine cl ?_;apply z;clear z K;try simp only[A4,])
   exact⟨(),trivial,sS,by simp[W,ble,A7,Aj,Bq]⟩
 intro _ _;rw[Ci];refine Ak B3 Ge ?_;refine A0.stop rfl ?_;simp only[A4,Ac,Af];refine u1 _ _ ?_;clear u1 K1;refine sR Ge ?_;exact aR
abbrev B3b:List Nat:=[0,1,3,4,5,6,7,8,11]
def H0u(n q:Int):Aa prog 14 [Dg (some n),Kp (La q)] (Aw (decide (n=q))):=by have I:=F8u 4 n;have E:=F6i 4 n;simp only[Dg,Jk]at I E |-;refine cB func14 ?_;refine sR B3b ?_;refine kR B3b λJ u1=>?_;refine kI u1 ?_;clear u1 J;refine sC I B3b ?_;refine sC E B3b ?_;refine sR B3b ?_;exact aR
def t24:Ty:=.mk [84] [] 0
def l24:Ex:=.mk 3 [] t24 [] [] 0
def G4:Prog:=⟨[{ (default:Decl)with kind:=1,name:=[84] },{ (default:Decl)with kind:=2,name:=[73],sigs:=[⟨[109],[],[],t24,0⟩] }],.mk 5 [] t24 [] [l24] 0⟩
def q24:Prog:=⟨[{ (default:Decl)with kind:=1,name:=[84],A1:=[⟨[97],t24,0⟩] }],l24⟩
def C0c:G4.count<=600:=by decide +kernel
def D7k:q24.count<=600:=by decide +kernel
def H3b:C3t G4 [73]=[[109]]:=by decide +kernel
def H3q:Cv G4 [] (.mk [84] [] 0) (.mk [73] [] 0)=false:=by decide +kernel
def F1b:Cv G4 [] (.mk [84] [] 0) (.mk [84] [] 0)=true:=by decide +kernel
def H1g:C0y G4=[[73]]:=by decide +kernel
def G0q(t:Ty):Ep [] t<0:=by unfold Ep;split <;> simp[Dr]
abbrev B6d:List Nat:=[0,1,2,6,8,9,10,11,12,13,21]
def F2k(p:Prog)(env:List Ah):Aa prog 291 [.A9 (Dh p) 0,.d (.slice (Ag env)),Cm []] (.d .Hc):=by
 refine cB func291 ?_;refine sR B6d ?_;refine kR B6d λI u1=>?_;refine A0.bb (A0.ii ([]:List Ty) (X:=Unit) (λj _=>[(0,.A9 (Dh p) 0),(1,.d (.slice (Ag env))),(10,Cm []),(11,A5 ([]:List Ty).length),(12,A5 j)]) (λ_ _=>[])
  (λj _=>True) () trivial (by simp[sle,Ay,Ae,Dh,Aj]) sB ?_ λ_ _ _ hd=>by simp at hd)
 intro _ E;refine Ak B3 B6d ?_;refine A0.stop rfl ?_;simp only[A4,Ac,Af];refine u1 _ _<|sR B6d ?_;exact aR
abbrev B4b:List Nat:=[0,1,2,3,8,9,10,15,16,17,18,19,36]
def G8x(p:Prog)(env:List Ah):Aa prog 292 [.A9 (Dh p) 0,.d (.slice (Ag env)),.d (.slice (Ag [])),Cm []] (A5 (-1)):=by
 refine cB func292 ?_;refine sR B4b ?_;refine kR B4b λE u1=>?_;refine kI u1 ?_;clear u1 E;refine kR B4b λE u1=>?_;refine A0.bb (A0.ii ([]:List Ah) (X:=Unit) (λj _=>[(0,.A9 (Dh p) 0),(1,.d (.slice (Ag env))),(2,.d (.slice (Ag []))),(3,Cm []),(16,.d (.slice (Ag []))),(17,A5 ([]:List Ah).length),(18,A5 j)]) (λ_ _=>[])
  (λj _=>True) () trivial (by simp[sle,Ay,Ae,Dh,Aj]) sB ?_ λ_ _ _ hd=>by simp at hd)
 intro _ I;refine Ak B3 B4b ?_;refine A0.stop rfl ?_;simp only[A4,Ac,Af];refine u1 _ _<|sR B4b ?_;exact aR
abbrev Vz:List Nat:=[0,1,2,5,6,8,9,10,11,12,19,36,46,55]
def C8c(p:Prog)(h:p.Sm)(x:Ty)(V:x.args=[])(hc:Bk p [] x=none):Aa prog 278 [.A9 (Dh p) 0,.d (.slice (Ag [])),B7 x] (.d .Hc):=by
 have O:=B9u [] x (by simp) (by simp);have E:=G4f p h x.name;have J:=E8c p h x.name;have L:=F2k p [];have U:=G8x p [];rcases A4d.1 hc with Z|⟨k0,W,_⟩
 .simp[Cs,Ep]at Z
 rw[V,Ca,Ap0]at W;rw[W]at E;obtain⟨n,a,q⟩:=x;simp only[Ty.args]at V;subst V;simp only[Ty.name]at E J k0;have O:Aa prog 98 [.d (.slice (Ag [])),B7 (.mk n [] q)] (Yj none):=O;simp only[Yj]at O;generalize kindOf p n=k at*;refine cB func278 ?_;refine sR Vz ?_;refine kC O Vz λI u1=>?_;refine sR Vz ?_;refine kI u1 ?_;clear u1 I;refine sR Vz ?_;refine sC E Vz<|sK λI u1=>?_
 (refine sV Vz λK z=>?_;refine⟨_,.inl ⟨_,rfl,J,rfl⟩,?_⟩;(try refine Ap k0 ?_);apply z;clear z K)
 refine kI u1 ?_;clear u1 I;refine kC L Vz λI u1=>?_;refine sR Vz ?_;refine kI u1 ?_;clear u1 I;refine kC U Vz λI u1=>?_;refine sR Vz ?_;refine kI u1 ?_;clear u1 I;refine sR Vz ?_;exact aR
abbrev A0m:List Nat:=[0,1,2,3,6,7,8,9,10,11,12,13,26]
def F2q(c:Cf)(l:List Ex)(hl:l.length<=sm)(m:List Param)(W:l.length<=m.length)
  (V:∀(i:Nat) (k:Ex) (f:Param),l[i]?=some k->m[i]?=some f->Aa prog 231 [Us c,D3 k,B7 f.type] (.d .Hc)) :
  Aa prog 294 [Us c,.d (.slice (Eb l)),.d (.slice (Av m))] (.d .Hc):=by
 refine cB func294 ?_;refine sR A0m ?_;refine kR A0m λK1 u1=>?_;refine A0.bb (A0.ii l (X:=Unit) (λj _=>[(0,Us c),(2,.d (.slice (Av m))),(3,.box 3 0),(10,.d (.slice (Eb l))),(11,A5 l.length),(12,A5 j)]) (λ_ _=>[(3,.cells (ckS c))])
  (λj _=>True) () trivial sS sB ?_ ?_)
 .intro _ _;refine Ak B3 A0m ?_;refine A0.stop rfl ?_;simp only[A4,Ac,Af];refine u1 _ _<|sR A0m ?_;exact aR
 .intro j _ d hd J Z tk I _;have L:j<l.length:=by omega
  have E:=Bi (l:=m) (i:=j) (by omega);generalize m[j]=f at E;have O:=V j d f hd E;refine Ak I A0m ?_;refine A0.Er rfl<|sK λU u2=>A0.bb ?_
  (refine sV A0m λK z=>?_;refine ci (G8 hd) ?_;apply z;clear z K)
  (refine sG A0m [] 7 [] λK z=>?_;refine ev ?_;refine ci (Du E) ?_;refine cc O ?_;apply z;clear z K)
  refine sR A0m ?_;refine A0.ff rfl (A0.kk (u2 _ _ ?_));clear u2 U;refine lT A0m ?_;exact⟨(),trivial,sS,sB⟩
abbrev C8f(f:FuncId)(c:Cf)(e:Ex)(t:Ty):Prop:=Aa prog f [Us c,D3 e] (.tuple [B7 t,.d .Hc])
abbrev A9e:List Nat:=[0,1,2,3,4,5,6,7,8,17,36]
def G5v(c:Cf)(h:c.Sm)(E:c.env=[])(e:Ex)(U:e.Sm)(ha:e.type.args=[])(W:Bk c.p c.env e.type=none)(Z:Ju c e.type=true)(V:(Bx c.p e.type).length=e.kids.length)
  (hF:∀(i:Nat) (k:Ex) (f:Param),e.kids[i]?=some k->(Bx c.p e.type)[i]?=some f->Aa prog 231 [Us c,D3 k,B7 f.type] (.d .Hc)):C8f 234 c e e.type:=by
 have L:=C8c c.p h.p e.type ha (by rw[<-E];exact W);have I:=H4h c h e.type U.type;have J:=F2q c e.kids U.kids.1 (Bx c.p e.type) (by omega) hF;have hl:((Bx c.p e.type).length:Int)=(e.kids.length:Int):=by omega
 rw[Z,show B9p c e.type=Bx c.p e.type by unfold B9p;rw[E,A8 (G0q _)]]at I;rw[<-E]at L;refine cB func234 ?_;refine sR A9e ?_
 (refine A0.zz 3 rfl rfl (wk [(2,.box 2 0),(3,.A9 (Cg e) 0),(4,.box 4 0)] [(2,.cells (ckS c)),(4,Rf)] ?_))
 refine kC L A9e λO u1=>?_;refine sR A9e ?_;refine kI u1 ?_;clear u1 O;refine sC I A9e ?_;refine Ai hl A9e λO u1=>?_;refine kI u1 ?_;clear u1 O
 (refine sG A9e [] 7 [] λK z=>?_;refine ev ?_;refine cc J ?_;apply z;clear z K)
 exact aR
abbrev A4b:List Nat:=[0,1,2,3,4,5,6,7,18,27,39]
def F0u(c:Cf)(h:c.Sm)(E:c.env=[])(e:Ex)(U:e.type.args=[])(O:Bk c.p c.env e.type=none){k:Ex}(V:e.kids[0]?=some k){x:Ty}(L:Aa prog 157 [Us c,D3 k] (toV (x,none))):C8f 236 c e e.type:=by
 have I:=C8c c.p h.p e.type U (by rw[<-E];exact O);rw[<-E]at I;simp only[toV,Jk]at L;refine cB func236 ?_;refine sR A4b ?_
 (refine A0.zz 3 rfl rfl (wk [(2,.box 2 0),(3,.A9 (Cg e) 0),(4,.box 4 0)] [(2,.cells (ckS c)),(4,Rf)] ?_))
 (refine sG A4b [6] 11 [⟨[],[],[6],[6]⟩,⟨[],[],[6],[6]⟩,⟨[],[],[6],[6]⟩,⟨[],[],[6],[6]⟩,⟨[],[],[6],[6]⟩,⟨[],[],[6],[6]⟩,⟨[],[],[6],[6]⟩,⟨[],[],[6],[6]⟩,⟨[],[],[6],[6]⟩,⟨[6],[6],[],[]⟩,⟨[6],[],[],[]⟩] λK z=>?_;refine ev ?_;refine cj (G8 V) ?_;refine cc L ?_;apply z;clear z K)
 refine kR A4b λJ u1=>?_;refine A0.tt rfl ?_
 (refine lV A4b λK z=>?_;refine cc I ?_;apply z;clear z K;try simp only[A4,])
 refine u1 _ _ ?_;clear u1 J;refine kR A4b λJ u1=>?_;refine kI u1 ?_;clear u1 J;refine kR A4b λJ u1=>?_;refine kI u1 ?_;clear u1 J;refine sR A4b ?_;exact aR
abbrev Xd:List Nat:=[0,1,2,3,4,5,6,7,8,9,45,60]
def D0x(c:Cf)(e:Ex)(he:e.Sm){t:Ty}(hS:t.Sm){j:Nat}{f:FuncId}(hj:e.kind=j)(a2:(j=1\/j=3)\/(j=2\/j=4\/j=5)/\e.kids.length≠0)(I:(B9s c)[j]?=some (.d (A7p c f)))(O:C8f f c e t) :
  Aa prog 157 [Us c,D3 e] (toV (t,none)):=by
 have Z:j<6:=by omega
 have TA:prog.underlying 272=some (.array 6 212):=by kernel_rfl
 have TB:Be prog 212=some 1:=by kernel_rfl
 have TD:Cr prog 211=some true:=by kernel_rfl
 have TE:Be prog 211=some 4:=by kernel_rfl
 have TS:Be prog 272=some 6:=by kernel_rfl
 have TZ:Cb prog 272=some [.d .Fh,.d .Fh,.d .Fh,.d .Fh,.d .Fh,.d .Fh]:=by kernel_rfl
 have a1:∀(i:Nat) (q:Nat × Nat),[(0,1),(1,1),(2,1),(3,1),(4,1),(5,1)][i]?=some q->q=(i*1,1):=by
  intro i q U
  match i with
  |0|1|2|3|4|5=>simp at U;rw[<-U]
  |i+6=>simp at U
 have TC:Cr prog 212=some false:=by kernel_rfl
 have E:¬e.kind<1:=by omega
 have L:¬ 6<=e.kind:=by omega
 have a0:=A3r t hS;have U:0+j*1=j:=by omega
 simp only[toV,Jk];have W:(decide (e.kind=1)=true\/(decide (e.kind=1)=false/\decide (e.kind=3)=true))\/(decide (e.kind=1)=false/\decide (e.kind=3)=false)/\¬(e.kids.length:Int)=0:=by simp only[Dp,Z1];omega
 refine cB func157 ?_;refine sR Xd ?_
 (refine A0.zz 3 rfl rfl (wk [(2,.box 2 0),(3,.A9 (Cg e) 0),(4,.box 4 0)] [(2,.cells (ckS c)),(4,Rf)] ?_))
 refine A0.seq (A0.region [2,3,4,6] [2,4,6] (by decide +kernel) ?_)
 iterate 5
  refine⟨true,rfl,by simp[Qm],λ_=>⟨_,_,_,F8r (k:=2) (off:=0) (n:=4) (cs:=ckS c) rfl rfl (by simp) TD TE (Bs 4) rfl,?_⟩,λh=>by cases h⟩;refine⟨true,rfl,by simp[Qm],λ_=>⟨_,_,_,G2h (D7d c) rfl rfl,?_⟩,λh=>by cases h⟩
 refine⟨true,rfl,by simp[Qm],λ_=>⟨_,_,_,F2j (ps:=[(0,1),(1,1),(2,1),(3,1),(4,1),(5,1)]) (out:=B9s c) rfl TA TB TZ a1 rfl rfl rfl,?_⟩,λh=>by cases h⟩;refine⟨true,rfl,by simp[Qm],λ_=>⟨_,_,_,D0t (k:=6) (by decide) rfl TZ,?_⟩,λh=>by cases h⟩;refine⟨true,rfl,by simp[Qm],λ_=>⟨_,_,_,E2x (k:=6) (off:=0) (cs:=[.d .Fh,.d .Fh,.d .Fh,.d .Fh,.d .Fh,.d .Fh]) (us:=B9s c) rfl rfl (List.Mem.head _) rfl TS (Bs 6),?_⟩,λh=>by cases h⟩;refine A0.ww (sl':=[(2,.box 2 0),(3,.A9 (Cg e) 0),(4,.box 4 0),(6,.box 6 0)]) (bx':=[(2,.cells (ckS c)),(4,Rf),(6,.cells (B9s c))])
  ⟨.inr (.inl rfl),.inr (.inl rfl),.inr (.inl rfl),.inr (.inl rfl),trivial⟩ ⟨rfl,rfl,rfl,trivial⟩ ?_
 rcases W with(V|⟨V,m3⟩)|⟨⟨V,m3⟩,hl⟩
 (refine sQ Xd λK z=>?_;simp -implicitDefEqProofs only[EV,Nat.reduceEqDiff,reduceCtorEq,Ih,Iv,V,M5];apply z;clear z K)
 refine Ng E L Xd λJ u1=>?_;refine kI u1 ?_;clear u1 J;rotate_left
 (refine sQ Xd λK z=>?_;simp -implicitDefEqProofs only[EV,Nat.reduceEqDiff,reduceCtorEq,Ih,Iv,V,m3,M5];apply z;clear z K)
 refine Ng E L Xd λJ u1=>?_;refine kI u1 ?_;clear u1 J;rotate_left
 (refine sQ Xd λK z=>?_;simp -implicitDefEqProofs only[EV,Nat.reduceEqDiff,reduceCtorEq,Ih,Iv,V,m3,M5];apply z;clear z K)
 refine kR3 E L hl Xd λJ u1=>?_;refine kI u1 ?_;clear u1 J;rotate_left
 all_goals
  (refine sG Xd [8] 11 [⟨[],[],[8],[8]⟩,⟨[],[],[8],[8]⟩,⟨[],[],[8],[8]⟩,⟨[],[],[8],[8]⟩,⟨[],[],[8],[8]⟩,⟨[],[],[8],[8]⟩,⟨[],[],[8],[8]⟩,⟨[],[],[8],[8]⟩,⟨[],[],[8],[8]⟩,⟨[8],[8],[],[]⟩,⟨[8],[],[],[]⟩] λK z=>?_;refine ev ?_;refine⟨_,G9p (j:=j) rfl rfl hj TA TB Z U,?_⟩;(try refine Ap I ?_);refine⟨_,G5t (D7d c) (args:=[.tmp 55]) rfl rfl O rfl,?_⟩;(try refine ev ?_);apply z;clear z K)
  refine kR Xd λJ u1=>?_;refine kI u1 ?_;clear u1 J;refine sC a0 Xd ?_;exact aR
def F1c(c:Cf)(e:Ex){t:Ty}(E:Aa prog 157 [Us c,D3 e] (toV (t,none))) :
  Aa prog 82 [.A9 (Dh c.p) 0,Aw false,.d (.slice (Ag c.env)),.d (.slice (Av c.vars)),D3 e] (.tuple [B7 t,.d .Hc]):=by
 simp only[toV,Jk]at E;refine cB func82 ?_;refine sR [0,1,2,3,4,9,10,11] ?_;refine sC E [0,1,2,3,4,9,10,11] ?_;exact aR
def TyP(p:Prog)(t:Ty):Prop:=t.args=[]/\Bk p [] t=none
def TyP.ok{p:Prog}(h:p.Sm){t:Ty}(ht:TyP p t):Aa prog 278 [.A9 (Dh p) 0,.d (.slice (Ag [])),B7 t] (Dg (Bk p [] t)):=by rw[ht.2];exact C8c p h t ht.1 ht.2
abbrev A6t:List Nat:=[0,1,2,3,5,8]
def H4t(p:Prog)(h:p.Sm)(l:List Param)(J:l.length<=sm)(V:∀f,f∈l->TyP p f.type)(j:Nat)(d:Param)(hd:l[j]?=some d) :
  Aa prog 283 [A5 j,.A9 [.slice (Av l)] 0,.A9 [Di p] 0,.A9 [.slice (Ag [])] 0] (Dg (D7g p [] l j d)):=by
 have U:=(V d (C6 hd)).ok h;have E:=G1f l J j d hd;have O:=C7c true d.pos;unfold D7g;by_cases I:d.name∈(l.take j).map (·.name)
 .rw[A8 I];rw[Bj I]at E;simp only[A8z,Af,Dg,Jk]at O |-;refine cB func283 ?_;refine sR A6t ?_;refine kC E A6t λL u1=>?_;refine tI ?_
  (refine sV A6t λK z=>?_;refine ci (Du hd) ?_;refine cc O ?_;apply z;clear z K)
  exact aR
 .rw[A6 I];rw[C9 I]at E;generalize Bk p [] d.type=o at*;refine cB func283 ?_;refine sR A6t ?_;refine kC E A6t λL u1=>?_;refine kI u1 ?_;clear u1 L
  (refine sG A6t [] 7 [] λK z=>?_;refine ev ?_;refine ci (Du hd) ?_;refine cc U.ptr ?_;apply z;clear z K)
  exact A0.ret ⟨_,by rw[results283];rfl,Rz _ _⟩
def E2i(p:Prog)(h:p.Sm)(l:List Param)(E:l.length<=sm)(J:∀f,f∈l->TyP p f.type) :
  I9 prog (C0n p [] l) [] (Dg (Np p [] [] l)):=by
 rw[<-E5j p [] l []];refine B8v _ _ _ _ (by simp) (by simpa using E) λj x I=>?_;rw[Sd,Jv]at I;obtain⟨d,hd,rfl⟩:=I;rw[Vi];exact⟨_,[.A9 [.slice (Av l)] 0,.A9 [Di p] 0,.A9 [.slice (Ag [])] 0],_,_,rfl,⟨⟨rfl,rfl⟩,⟨rfl,rfl⟩,⟨rfl,rfl⟩,trivial⟩,rfl,H4t p h l E J j d hd⟩
abbrev B0e:List Nat:=[0,1,2,3,4,5,6,7,8,9,10]
def D6o(p:Prog):Aa prog 223 [.A9 (Dh p) 0,.d (.slice (Ag [])),.d (.slice (Ag []))] (Dg none):=by
 have L:=B8m [] [] (by simp) (by simp) (by simp) (by simp);have U:=C1a [] (by simp);have I:=B7s 0 279 [.ptr [Di p],.ptr [.slice (Ag [])],.ptr [.slice (Bq (Ad []))],.ptr [.slice (Ag [])]];have E:=B7s 0 280 [.ptr [.slice (Ag [])],.ptr [Di p],.ptr [.slice (Ag [])]];have O:Aa prog 212 [.d (.slice [[B0z 0 (.cl 279 [.ptr [Di p],.ptr [.slice (Ag [])],.ptr [.slice (Bq (Ad []))],.ptr [.slice (Ag [])]])],[B0z 0 (.cl 280 [.ptr [.slice (Ag [])],.ptr [Di p],.ptr [.slice (Ag [])]])]])] (Dg none) :=
  C0f [(_,none),(_,none)] (show 2<=sm by decide) (by
   intro x J;simp only[B1,E5,Ea]at J;rcases J with rfl|rfl
   .exact B8v _ _ [] 0 rfl (by simp) (by simp)
   .exact B8v _ _ [] 0 rfl (by simp) (by simp))
 generalize(none:Option Int)=R at*;refine cB func223 ?_;refine sR B0e ?_;refine sC L B0e ?_;refine sC U B0e ?_;refine A0.A0v 3 rfl rfl ?_
 (refine A0.zz 4 rfl rfl ?_;refine A0.zz 5 rfl rfl ?_;refine A0.zz 7 rfl rfl ?_;refine A0.zz 8 rfl rfl (wk [(3,.A9 [Di p] 0),(4,.A9 [.slice (Ag [])] 0),(5,.A9 [.slice (Ag [])] 0),(7,.A9 [.slice (Ag [])] 0),(8,.A9 [.slice (Bq (Ad []))] 0)] [] ?_))
 (refine A0.D7 B0e [800018] (by decide +kernel) λK z=>?_;refine ev ?_;refine⟨_,Lz (xs:=[.A9 [Di p] 0,.A9 [.slice (Ag [])] 0,.A9 [.slice (Bq (Ad []))] 0,.A9 [.slice (Ag [])] 0]) (ys:=[.ptr [Di p],.ptr [.slice (Ag [])],.ptr [.slice (Bq (Ad []))],.ptr [.slice (Ag [])]]) ⟨⟨rfl,rfl⟩,⟨rfl,rfl⟩,⟨rfl,rfl⟩,⟨rfl,rfl⟩,trivial⟩ rfl,?_⟩;(try refine ev ?_);refine cc I ?_;apply z;clear z K)
 (refine A0.D7 B0e [800022] (by decide +kernel) λK z=>?_;refine ev ?_;refine⟨_,Lz (xs:=[.A9 [.slice (Ag [])] 0,.A9 [Di p] 0,.A9 [.slice (Ag [])] 0]) (ys:=[.ptr [.slice (Ag [])],.ptr [Di p],.ptr [.slice (Ag [])]]) ⟨⟨rfl,rfl⟩,⟨rfl,rfl⟩,⟨rfl,rfl⟩,trivial⟩ rfl,?_⟩;(try refine ev ?_);refine cc E ?_;apply z;clear z K)
 refine sC O B0e ?_;exact A0.ret ⟨_,by rw[results223];rfl,Rz _ _⟩
def H4w(p:Prog)(h:p.Sm)(s:A3)(ht:TyP p s.result) :
  Aa prog 277 [.A9 [Di p] 0,.A9 [.slice (Ag [])] 0,.A9 (Dd s) 0] (Dg (Bk p [] s.result)):=by
 have E:=ht.ok h;generalize Bk p [] s.result=R at*;refine cB func277 ?_;refine sR [0,1,2,3] ?_;refine sC E.ptr [0,1,2,3] ?_;exact A0.ret ⟨_,by rw[results277];rfl,Rz _ _⟩
structure B5v(p:Prog)(s:A3):Prop where
 sm:s.Sm
 A1:s.A1=[]
 params:∀f,f∈s.params->TyP p f.type
 result:TyP p s.result
 ok:Np p [] [] s.params=none
abbrev B1w:List Nat:=[0,1,2,3,4,5,6,7,8,9]
def H5m(p:Prog)(h:p.Sm)(s:A3)(hs:B5v p s):Aa prog 217 [.A9 (Dh p) 0,.d (.slice (Ag [])),Cy s] (Dg none):=by
 have U:Aa prog 230 [.d (.slice (Ag [])),.d (.slice (Ag s.A1))] (.d (.slice (Ag []))):=by rw[hs.A1];exact B8m [] [] (by simp) (by simp) (by simp) (by simp)
 have O:=E4h p [] s.params hs.sm.params.1;have J:I9 prog (.cl 276 [.ptr [Di p],.ptr [.slice (Ag [])],.ptr (Dd s)]) [] (Dg none) :=
  ⟨_,[.A9 [Di p] 0,.A9 [.slice (Ag [])] 0,.A9 (Dd s) 0],_,_,rfl,⟨⟨rfl,rfl⟩,⟨rfl,rfl⟩,⟨rfl,rfl⟩,trivial⟩,rfl,by have:=G8r p [] s (by rw[hs.A1];exact D6o p);rw[hs.A1]at this;exact this⟩
 have E:=E2i p h s.params hs.sm.params.1 hs.params;rw[hs.ok]at E;have L:I9 prog (.cl 277 [.ptr [Di p],.ptr [.slice (Ag [])],.ptr (Dd s)]) [] (Dg none) :=
  ⟨_,[.A9 [Di p] 0,.A9 [.slice (Ag [])] 0,.A9 (Dd s) 0],_,_,rfl,⟨⟨rfl,rfl⟩,⟨rfl,rfl⟩,⟨rfl,rfl⟩,trivial⟩,rfl,by have:=H4w p h s hs.result;rw[hs.result.2]at this;exact this⟩
 have V:Aa prog 212 [.d (.slice [[.cl 276 [.ptr [Di p],.ptr [.slice (Ag [])],.ptr (Dd s)]],[C0n p [] s.params],[.cl 277 [.ptr [Di p],.ptr [.slice (Ag [])],.ptr (Dd s)]]])] (Dg none) :=
  C0f [(_,none),(_,none),(_,none)] (show 3<=sm by decide) (by
   intro x I;simp only[B1,E5,Ea]at I;rcases I with rfl|rfl|rfl
   .exact J
   .exact E
   .exact L)
 clear J E L;generalize(none:Option Int)=R at*;refine cB func217 ?_;refine sR B1w ?_;refine sC U B1w ?_;refine A0.A0v 3 rfl rfl ?_
 (refine A0.zz 4 rfl rfl ?_;refine A0.zz 5 rfl rfl ?_;refine A0.zz 7 rfl rfl (wk [(3,.A9 [Di p] 0),(4,.A9 [.slice (Ag [])] 0),(5,.A9 (Dd s) 0),(7,.A9 [.slice (Ag [])] 0)] [] ?_))
 (refine A0.D7 B1w [800014] (by decide +kernel) λK z=>?_;refine ev ?_;refine⟨_,Lz (xs:=[.A9 [Di p] 0,.A9 [.slice (Ag [])] 0,.A9 (Dd s) 0]) (ys:=[.ptr [Di p],.ptr [.slice (Ag [])],.ptr (Dd s)]) ⟨⟨rfl,rfl⟩,⟨rfl,rfl⟩,⟨rfl,rfl⟩,trivial⟩ rfl,?_⟩;(try refine ev ?_);apply z;clear z K)
 (refine A0.D7 B1w [800015] (by decide +kernel) λK z=>?_;refine ev ?_;refine⟨_,Lz (xs:=[.A9 [Di p] 0,.A9 [.slice (Ag [])] 0,.A9 (Dd s) 0]) (ys:=[.ptr [Di p],.ptr [.slice (Ag [])],.ptr (Dd s)]) ⟨⟨rfl,rfl⟩,⟨rfl,rfl⟩,⟨rfl,rfl⟩,trivial⟩ rfl,?_⟩;(try refine ev ?_);apply z;clear z K)
 (refine sV B1w λK z=>?_;refine cc O.ptr ?_;refine cc V ?_;apply z;clear z K)
 exact A0.ret ⟨_,by rw[results217];rfl,Rz _ _⟩
def G2j(p:Prog)(h:p.Sm)(d:Decl)(hd:d.Sm)(O:d.A1=[])(W:(d.sigs.map (·.name)).Nodup)(L:∀s,s∈d.sigs->B5v p s)(j:Nat)(s:A3)(hs:d.sigs[j]?=some s) :
  Aa prog 227 [A5 j,.A9 (Ar d) 0,.A9 [Di p] 0] (Dg none):=by
 have I:=H1x d.sigs hd.sigs.1 j s hs;have E:=H5m p h s (L s (C6 hs));rw[<-O]at E;have J:¬s.name∈(d.sigs.take j).map (·.name):=λJ=>by obtain⟨y,V,e⟩:=Au.1 J;obtain⟨k,hk,rfl⟩:=List.mem_take_iff_getElem.1 V;obtain⟨U,rfl⟩:=Az.1 hs;have:=Am4.1 W k j (by simp;omega) (by simpa using U) (by omega);simp at this;exact this e
 rw[C9 J]at I;generalize(none:Option Int)=o at*;refine cB func227 ?_;refine sR [0,1,2,4,8] ?_;refine kC I [0,1,2,4,8] λZ u1=>?_;refine kI u1 ?_;clear u1 Z
 (refine sG [0,1,2,4,8] [] 8 [] λK z=>?_;refine ev ?_;refine ci (D1 hs) ?_;refine cc E.ptr ?_;apply z;clear z K)
 exact A0.ret ⟨_,by rw[results227];rfl,Rz _ _⟩
structure F4s(p:Prog)(front:List Decl)(d:Decl):Prop where
 sm:d.Sm
 A1:d.A1=[]
 F9h:(front.any λx=>x.Fv d.name)=false
 fields:d.kind=1->(∀f,f∈d.fields->TyP p f.type)/\Np p [] [] d.fields=none/\Aa prog 224 [.A9 [Di p] 0,.A9 (Ar d) 0] (Dg none)
 sigs:¬d.kind=1->(d.sigs.map (·.name)).Nodup/\∀s,s∈d.sigs->B5v p s
abbrev Sa:List Nat:=[0,1,2,3,4,5,6,7,8,9,10,11,17]
set_option maxHeartbeats 4000000 in
def E4z(p:Prog)(h:p.Sm)(front:List Decl)(hl:front.length<=sm)(d:Decl)(I:F4s p front d) :
  Aa prog 154 [.A9 (Dh p) 0,.d (.slice (C1 front)),Ia d] (Dg none):=by
 have hd:=I.sm;have f2:I9 prog (.cl 221 [.ptr [.slice (C1 front)],.ptr [.cl 220 [.ptr (Ar d)]],.ptr (Ar d)]) [] (Dg none) :=
  ⟨_,[.A9 [.slice (C1 front)] 0,.A9 [.cl 220 [.ptr (Ar d)]] 0,.A9 (Ar d) 0],_,_,rfl,⟨⟨rfl,rfl⟩,⟨rfl,rfl⟩,⟨rfl,rfl⟩,trivial⟩,rfl,by have:=F4f front hl d;rw[I.F9h]at this;exact this⟩
 have f3:I9 prog (.cl 222 [.ptr [Di p],.ptr (Ar d)]) [] (Dg none) :=
  ⟨_,[.A9 [Di p] 0,.A9 (Ar d) 0],_,_,rfl,⟨⟨rfl,rfl⟩,⟨rfl,rfl⟩,trivial⟩,rfl,F1f p d _ (by rw[I.A1];exact D6o p)⟩
 rcases Eu (decide (d.kind=1))with m|m
 .obtain⟨O,L,g3⟩:=I.fields (of_decide_eq_true m);have f4:I9 prog (.cl 224 [.ptr [Di p],.ptr (Ar d)]) [] (Dg none) :=
   ⟨_,[.A9 [Di p] 0,.A9 (Ar d) 0],_,_,rfl,⟨⟨rfl,rfl⟩,⟨rfl,rfl⟩,trivial⟩,rfl,g3⟩
  have f5:=E2i p h d.fields hd.fields.1 O;rw[L]at f5;have Z:=E4h p d.A1 d.fields hd.fields.1;rw[<-I.A1]at f5;have V:Aa prog 212 [.d (.slice [[.cl 221 [.ptr [.slice (C1 front)],.ptr [.cl 220 [.ptr (Ar d)]],.ptr (Ar d)]],[.cl 222 [.ptr [Di p],.ptr (Ar d)]],[C0n p d.A1 d.fields],[.cl 224 [.ptr [Di p],.ptr (Ar d)]]])] (Dg none) :=
   C0f [(_,none),(_,none),(_,none),(_,none)] (show 4<=sm by decide) (by
    intro x E;simp only[B1,E5,Ea]at E;rcases E with rfl|rfl|rfl|rfl
    .exact f2
    .exact f3
    .exact f5
    .exact f4)
  generalize(none:Option Int)=R at*;refine cB func154 ?_;refine sR Sa ?_;refine A0.A0v 3 rfl rfl ?_
  (refine A0.zz 4 rfl rfl ?_;refine A0.zz 5 rfl rfl (wk [(3,.A9 [Di p] 0),(4,.A9 [.slice (C1 front)] 0),(5,.A9 (Ar d) 0)] [] ?_))
  (refine A0.D7 Sa [800012] (by decide +kernel) λK z=>?_;refine ev ?_;refine⟨_,Lz (xs:=[.A9 (Ar d) 0]) (ys:=[.ptr (Ar d)]) ⟨⟨rfl,rfl⟩,trivial⟩ rfl,?_⟩;(try refine ev ?_);apply z;clear z K)
  (refine A0.zz 7 rfl rfl (wk [(3,.A9 [Di p] 0),(4,.A9 [.slice (C1 front)] 0),(5,.A9 (Ar d) 0),(7,.A9 [.cl 220 [.ptr (Ar d)]] 0)] [] ?_))
  (refine A0.D7 Sa [800013] (by decide +kernel) λK z=>?_;refine ev ?_;refine⟨_,Lz (xs:=[.A9 [.slice (C1 front)] 0,.A9 [.cl 220 [.ptr (Ar d)]] 0,.A9 (Ar d) 0]) (ys:=[.ptr [.slice (C1 front)],.ptr [.cl 220 [.ptr (Ar d)]],.ptr (Ar d)]) ⟨⟨rfl,rfl⟩,⟨rfl,rfl⟩,⟨rfl,rfl⟩,trivial⟩ rfl,?_⟩;(try refine ev ?_);apply z;clear z K)
  (refine A0.D7 Sa [800014] (by decide +kernel) λK z=>?_;refine ev ?_;refine⟨_,Lz (xs:=[.A9 [Di p] 0,.A9 (Ar d) 0]) (ys:=[.ptr [Di p],.ptr (Ar d)]) ⟨⟨rfl,rfl⟩,⟨rfl,rfl⟩,trivial⟩ rfl,?_⟩;(try refine ev ?_);apply z;clear z K)
  refine Ai m Sa λW u1=>?_;refine tI ?_
  (refine A0.D7 Sa [800018] (by decide +kernel) λK z=>?_;refine ev ?_;refine⟨_,Lz (xs:=[.A9 [Di p] 0,.A9 (Ar d) 0]) (ys:=[.ptr [Di p],.ptr (Ar d)]) ⟨⟨rfl,rfl⟩,⟨rfl,rfl⟩,trivial⟩ rfl,?_⟩;(try refine ev ?_);apply z;clear z K)
  (refine sV Sa λK z=>?_;refine cc Z.ptr ?_;refine cc V ?_;apply z;clear z K)
  exact A0.ret ⟨_,by rw[results154];rfl,Rz _ _⟩
 .obtain⟨O,L⟩:=I.sigs (of_decide_eq_false m);have J:=hd.sigs.1;have hE:=B7s d.sigs.length 227 [.ptr (Ar d),.ptr [Di p]];have f6:=B8v 227 [.ptr (Ar d),.ptr [Di p]] (d.sigs.map λ_=>none) d.sigs.length (by simp) (by simpa using J) λj x E=>by
   rw[Df,Jv]at E;obtain⟨s,U,rfl⟩:=E;exact⟨_,[.A9 (Ar d) 0,.A9 [Di p] 0],_,_,rfl,⟨⟨rfl,rfl⟩,⟨rfl,rfl⟩,trivial⟩,rfl,G2j p h d hd I.A1 O L j s U⟩
  rw[B5g (by simp)]at f6;have V:Aa prog 212 [.d (.slice [[.cl 221 [.ptr [.slice (C1 front)],.ptr [.cl 220 [.ptr (Ar d)]],.ptr (Ar d)]],[.cl 222 [.ptr [Di p],.ptr (Ar d)]],[B0z d.sigs.length (.cl 227 [.ptr (Ar d),.ptr [Di p]])]])] (Dg none) :=
   C0f [(_,none),(_,none),(_,none)] (show 3<=sm by decide) (by
    intro x E;simp only[B1,E5,Ea]at E;rcases E with rfl|rfl|rfl
    .exact f2
    .exact f3
    .exact f6)
  generalize(none:Option Int)=R at*;refine cB func154 ?_;refine sR Sa ?_;refine A0.A0v 3 rfl rfl ?_
  (refine A0.zz 4 rfl rfl ?_;refine A0.zz 5 rfl rfl (wk [(3,.A9 [Di p] 0),(4,.A9 [.slice (C1 front)] 0),(5,.A9 (Ar d) 0)] [] ?_))
  (refine A0.D7 Sa [800012] (by decide +kernel) λK z=>?_;refine ev ?_;refine⟨_,Lz (xs:=[.A9 (Ar d) 0]) (ys:=[.ptr (Ar d)]) ⟨⟨rfl,rfl⟩,trivial⟩ rfl,?_⟩;(try refine ev ?_);apply z;clear z K)
  (refine A0.zz 7 rfl rfl (wk [(3,.A9 [Di p] 0),(4,.A9 [.slice (C1 front)] 0),(5,.A9 (Ar d) 0),(7,.A9 [.cl 220 [.ptr (Ar d)]] 0)] [] ?_))
  (refine A0.D7 Sa [800013] (by decide +kernel) λK z=>?_;refine ev ?_;refine⟨_,Lz (xs:=[.A9 [.slice (C1 front)] 0,.A9 [.cl 220 [.ptr (Ar d)]] 0,.A9 (Ar d) 0]) (ys:=[.ptr [.slice (C1 front)],.ptr [.cl 220 [.ptr (Ar d)]],.ptr (Ar d)]) ⟨⟨rfl,rfl⟩,⟨rfl,rfl⟩,⟨rfl,rfl⟩,trivial⟩ rfl,?_⟩;(try refine ev ?_);apply z;clear z K)
  (refine A0.D7 Sa [800014] (by decide +kernel) λK z=>?_;refine ev ?_;refine⟨_,Lz (xs:=[.A9 [Di p] 0,.A9 (Ar d) 0]) (ys:=[.ptr [Di p],.ptr (Ar d)]) ⟨⟨rfl,rfl⟩,⟨rfl,rfl⟩,trivial⟩ rfl,?_⟩;(try refine ev ?_);apply z;clear z K)
  refine Ai m Sa λW u1=>?_;refine kI u1 ?_;clear u1 W
  (refine A0.D7 Sa [800033] (by decide +kernel) λK z=>?_;refine ev ?_;refine⟨_,Lz (xs:=[.A9 (Ar d) 0,.A9 [Di p] 0]) (ys:=[.ptr (Ar d),.ptr [Di p]]) ⟨⟨rfl,rfl⟩,⟨rfl,rfl⟩,trivial⟩ rfl,?_⟩;(try refine ev ?_);refine cc hE ?_;apply z;clear z K)
  refine sC V Sa ?_;exact A0.ret ⟨_,by rw[results154];rfl,Rz _ _⟩
structure H5u(p:Prog)(front:List Decl)(d:Decl):Prop where
 sm:d.Sm
 vars:d.vars=[]
 on:Em p d.name=[]
 kind:kindOf p d.name=1
 H5w:front.any (Fk d.name d.sig.name)=false
 sig:B5v p d.sig
 recv:∀f,f∈d.sig.params->f.name≠d.recv
abbrev Rg:List Nat:=[0,1,4,5,6,17,28,35]
def E6r(p:Prog)(h:p.Sm){j:Nat}{d:Decl}(hd:p.decls[j]?=some d)(J:A7j d=true)(E:d.kind=3->Aa prog 153 [.A9 (Dh p) 0,.d (.slice (C1 (p.decls.take j))),Ia d] (Dg none))(hT:¬d.kind=3->Aa prog 154 [.A9 (Dh p) 0,.d (.slice (C1 (p.decls.take j))),Ia d] (Dg none)) :
  Aa prog 80 [.A9 (Dh p) 0,A5 j] (Dg none):=by
 have O:=C5q p h;have W:=h.decls.1;have Z:=(Az.1 hd).1;have V:¬(j:Int)<0:=by omega
 have U:¬(j:Int) >= (p.decls.length:Int):=by omega
 have I:=E5c d;rw[J]at I;rw[show C1 (p.decls.take j)=(C1 p.decls).take j by simp[C1,List.map_take]]at E hT;generalize(none:Option Int)=R at*;rcases Eu (decide (d.kind=3))with m|m
 .have E:=E (of_decide_eq_true m);refine cB func80 ?_;refine sR Rg ?_;refine sC O Rg ?_;refine Ng V U Rg λL u1=>?_;refine kI u1 ?_;clear u1 L
  (refine sV Rg λK z=>?_;refine ci (Dx hd) ?_;apply z;clear z K)
  refine A0.bb<|sC I Rg ?_;refine A0.ff rfl<|Ak m Rg ?_;refine A0.tt rfl ?_
  (refine sG Rg [] 5 [] λK z=>?_;refine ev ?_;refine⟨C7x _,by omega,by omega,?_⟩;(try refine ev ?_);refine cc E ?_;apply z;clear z K)
  exact A0.ret ⟨_,by rw[results80];rfl,Rz _ _⟩
 .have hT:=hT (of_decide_eq_false m);refine cB func80 ?_;refine sR Rg ?_;refine sC O Rg ?_;refine Ng V U Rg λL u1=>?_;refine kI u1 ?_;clear u1 L
  (refine sV Rg λK z=>?_;refine ci (Dx hd) ?_;apply z;clear z K)
  refine A0.bb<|sC I Rg ?_;refine A0.ff rfl<|Ak m Rg ?_;refine A0.ff rfl ?_
  (refine sG Rg [] 5 [] λK z=>?_;refine ev ?_;refine⟨C7x _,by omega,by omega,?_⟩;(try refine ev ?_);refine cc hT ?_;apply z;clear z K)
  exact A0.ret ⟨_,by rw[results80];rfl,Rz _ _⟩
def F6n(p:Prog)(d:Decl)(k3:¬d.kind=3):Aa prog 81 [.A9 (Dh p) 0,Aw false,Ia d] (Dg none):=by refine cB func81 ?_;refine sR [0,1,2,5,6,7,8,11] ?_;refine Ai k3 [0,1,2,5,6,7,8,11] λE u1=>?_;refine tI ?_;refine sR [0,1,2,5,6,7,8,11] ?_;exact aR
abbrev Rj:List Nat:=[0,1,2,4,5,6,7,11,12,13,14,22,28,31]
def H2c(p:Prog)(h:p.Fit)(Z:∀(j:Nat)(d:Decl),p.decls[j]?=some d->Aa prog 80 [.A9 (Dh p) 0,A5 j] (Dg none))(hb:∀d,d∈p.decls->Aa prog 81 [.A9 (Dh p) 0,Aw false,Ia d] (Dg none)){t:Ty}(hF:Aa prog 157 [Us ⟨p,false,[],[]⟩,D3 p.main] (toV (t,none))):Aa prog 30 [Ct p,Aw false] (Dg none):=by
 simp only[Dg,Jk]at Z hb |-;have a0:=h.sm.decls.1;have E:=F1c ⟨p,false,[],[]⟩ p.main hF;have I:=C0p p h.sm;simp only[show Ag ([]:List Ah)=[] from rfl,show Av ([]:List Param)=[] from rfl]at E;refine cB func30 ?_;refine sR Rj ?_;refine A0.scope<|sC I Rj ?_;refine A0.G9z<|kR Rj λV u1=>?_;refine A0.bb (A0.ii p.decls (X:=Unit) (λj _=>[(1,Aw false),(2,.box 2 0),(4,.d .Hc),(5,.A9 (Dh p) 0),(11,.d (.slice (C1 p.decls))),(12,A5 p.decls.length),(13,A5 j)]) (λ_ _=>[(2,.cells ((Aj p).map .d))])
  (λ_ _=>True) () trivial sS (by simp[ble,A7,Aj]) ?_ ?_)
 rotate_left
 .intro j _ d hd J dp tk L _;have U:=Z j d hd;have O:=hb d J;refine Ak L Rj ?_;refine A0.Er rfl<|sK λK2 u2=>A0.bb ?_
  (refine sV Rj λK z=>?_;refine ci (Dx hd) ?_;apply z;clear z K)
  refine kC U Rj λK3 W=>?_;refine sR Rj ?_;refine A0.tt rfl ?_
  (refine lV Rj λK z=>?_;refine cc O ?_;apply z;clear z K;try simp only[A4,])
  refine W _ _ ?_;clear W K3;refine sR Rj ?_;refine A0.ff rfl (A0.kk (u2 _ _ ?_));clear u2 K2;refine lT Rj ?_;exact⟨(),trivial,sS,by simp[ble,A7,Aj]⟩
 intro _ _;refine Ak B3 Rj ?_;refine A0.stop rfl ?_;simp only[A4,Ac,Af];refine u1 _ _ ?_;clear u1 V;refine kR Rj λV u1=>?_;refine A0.tt rfl ?_
 (refine lV Rj λK z=>?_;refine cc E ?_;apply z;clear z K;try simp only[A4,])
 refine u1 _ _ ?_;clear u1 V;refine sR Rj ?_;exact aR
def F4j(p:Prog)(h:p.Sm)(J:p.Le)(L:A1q p=true)(I:Aa prog 30 [Ct p,Aw false] (Dg none)):Aa prog 9 [Ct p] (Dg none):=by have E:=D5k p J h;rw[L]at E;simp only[Dg,Jk]at I |-;refine cB func9 ?_;refine sR [0,1,2,5] ?_;refine kC E [0,1,2,5] λO u1=>?_;refine kI u1 ?_;clear u1 O;refine sC I [0,1,2,5] ?_;exact aR
def F5r(p:Prog)(h:p.Sm)(I:p.Le)(J:A1q p=false):Aa prog 9 [Ct p] (Dg (some 0)):=by have E:=D5k p I h;have L:=D3t 4 0;rw[J]at E;refine cB func9 ?_;refine sR [0,1,2,5] ?_;refine kC E [0,1,2,5] λO u1=>?_;refine tI ?_;refine sC L [0,1,2,5] ?_;exact A0.ret ⟨_,by rw[results9];rfl,Rz _ _⟩
abbrev B3z:List Nat:=[0,1,4,5,7,8,11,12,13,14]
def H1s(p:Prog)(h:p.Sm)(nm:A2)(I:Xy p nm p.decls=[]):Aa prog 313 [.A9 (Dh p) 0,Bm nm] (.d (.map [])):=by
 have E:=G8f p h nm;rw[I]at E;refine cB func313 ?_;refine sR B3z ?_;refine sR B3z ?_;refine kC E B3z λJ u1=>?_;refine A0.bb (A0.ii ([]:List Param) (X:=Unit) (λj _=>[(0,.A9 (Dh p) 0),(5,.mp 8),(11,.d (.slice (Av []))),(12,A5 ([]:List Param).length),(13,A5 j)]) (λ_ _=>[(8,.map [])])
  (λ_ _=>True) () trivial sS sB ?_ λ_ _ _ hd=>by simp at hd)
 intro _ _;refine Ak B3 B3z ?_;refine A0.stop rfl ?_;simp only[A4,Ac,Af];refine u1 _ _<|sR B3z ?_;exact aR
def G0i:C8 prog 314 [.d (.map [])] [] (.acc 0) [(0,.rows 1 [])]:=by have:=G9m [] (by simp) (by simp) (by simp);simpa [A8y,Qp,Bq]using this
abbrev A8v:List Nat:=[0,1,2,4,5,6,7,8,11,15,18,26]
def G5k(p:Prog)(h:p.Sm)(nm:A2)(I:Xy p nm p.decls=[]):Aa prog 282 [Ct p,Bm nm] (Cc []):=by
 have E:=H1s p h nm I;have hs:=G0i;refine cB func282 ?_;refine sR A8v ?_;refine sC (C0p p h) A8v ?_;refine sR A8v ?_
 (refine A0.D7 A8v [15] (by decide +kernel) λK z=>?_;refine ev ?_;refine cc E ?_;refine⟨_,_,_,_,_,rfl,hs,?_⟩;(try refine ev ?_);apply z;clear z K)
 refine sK λL u1=>A0.bb (A0.loop (X:=Unit) (λx=>[(5,.A9 (Dh p) 0),(6,.mp 11),(7,.acc 15)]) (λx=>[(11,.map []),(15,.rows 1 [])]) (λ_=>True) (λ_=>0) () trivial sS sB ?_);intro _ _;refine kR A8v λJ u2=>?_;refine A0.ss rfl ?_;simp only[A4,Ac,Af];refine u1 _ _ ?_;clear u1 L u2 J;refine A0.E5t 11 rfl<|sC hs.pub A8v ?_;exact aR
abbrev B2h:List Nat:=[0,1,4,5,6,7,8,9,15,27]
def F4k(s:A2):Aa prog 281 [Cc [],Bm s] (.tuple [A5 0,Aw false]):=by refine cB func281 ?_;refine sR B2h ?_;refine sR B2h ?_;refine sR B2h<|sK λI u1=>?_;refine A0.bb (A0.loop (X:=Unit) (λx=>[(0,Cc []),(1,Bm s),(6,A5 0),(7,A5 0),(8,A5 0)]) (λ_=>[]) (λ_=>True) (λ_=>0) () trivial sS sB ?_);intro _ _;refine Ai B3 B2h λE u2=>?_;refine A0.ss rfl ?_;simp only[A4,Ac,Af];refine u1 _ _ ?_;clear u1 I u2 E;refine Ak B3 B2h ?_;exact aR
def H0z(p:Prog)(h:p.Sm)(d:Decl)(I:Xy p d.name p.decls=[]):Aa prog 224 [.A9 [Di p] 0,.A9 (Ar d) 0] (Dg none):=by
 have L:=C5q p h;have hr:Aa prog 225 [Ct p,Bm d.name] (Aw false):=by
  have J:=G5k p h d.name I;have O:=F4k d.name;refine cB func225 ?_;refine sR [0,1,2,4,6] ?_
  (refine sV [0,1,2,4,6] λK z=>?_;refine cc J ?_;refine cc O ?_;apply z;clear z K)
  refine sR [0,1,2,4,6] ?_;exact aR
 have E:=C7c false d.pos;simp only[A8z,I0,Fx]at E;generalize(none:Option Int)=o at*;refine cB func224 ?_;refine sR [0,1,2] ?_
 (refine sG [0,1,2] [] 7 [] λK z=>?_;refine ev ?_;refine cc L.ptr ?_;refine cc hr ?_;refine cc E ?_;apply z;clear z K)
 exact A0.ret ⟨_,by rw[results224];rfl,Rz _ _⟩
def H1v:A1q G4=true:=by decide +kernel
def F9k:A1q q24=false:=by decide +kernel
def G1h:Aa prog 9 [Ct G4] (Dg none):=by
 have E:=Prog.X8 G4 C0c;have hT:TyP G4 t24:=⟨rfl,by decide +kernel⟩;have O:(⟨G4,false,[],[]⟩:Cf).Sm:=⟨E.sm,by simp,by simp,by simp,by simp⟩;have J:t24.Sm:=.mk _ _ _ (by decide) (by simp) (by simp);have L:l24.Sm:=E.sm.main.kids.2 _ (by simp[G4,Ex.kids]);have f0:=D0x ⟨G4,false,[],[]⟩ l24 L J (j:=3) rfl (.inl (.inr rfl)) rfl (G5v ⟨G4,false,[],[]⟩ O rfl l24 L rfl hT.2 (by decide +kernel) (by decide +kernel) λi k f W _=>by simp[l24,Ex.kids]at W);have f1:=D0x ⟨G4,false,[],[]⟩ G4.main E.sm.main J (j:=5) rfl (.inr ⟨.inr (.inr rfl),by decide⟩) rfl (F0u ⟨G4,false,[],[]⟩ O rfl G4.main rfl hT.2 (k:=l24) rfl f0);refine F4j G4 E.sm (Prog.Tp G4 C0c) H1v (H2c G4 E (λj d hd=>?_) (λd hd=>?_) f1)
 .have I:=E.sm.decls.2 d (C6 hd)
  match j with
  |0 =>simp[G4]at hd;subst hd;exact E6r G4 E.sm (j:=0) rfl rfl (λh=>by simp at h) λ_=>E4z G4 E.sm _ (by simp) _ ⟨I,rfl,rfl,λ_=>⟨λf V=>(E5 V).elim,rfl,H0z G4 E.sm _ (by decide +kernel)⟩,λh=>by simp at h⟩
  |1 =>
   simp[G4]at hd;subst hd;exact E6r G4 E.sm (j:=1) rfl rfl (λh=>by simp at h) λ_=>E4z G4 E.sm _ (by simp[G4,sm]) _ ⟨I,rfl,by decide +kernel,λh=>by simp at h,λ_=>⟨by simp,λs hs=>by have U:=I.sigs.2 s hs;simp at hs;subst hs;exact⟨U,rfl,by simp,hT,rfl⟩⟩⟩
  |j+2=>simp[G4]at hd
 .refine F6n G4 d ?_;simp[G4]at hd;rcases hd with rfl|rfl <;> simp
def G1k:Aa prog 5 [] (Aw true):=by
 have E:=Prog.X8 G4 C0c;have hq:=Prog.X8 q24 D7k;have lp:=Prog.Tp G4 C0c;have O:=G1h;have U:=F5r q24 hq.sm (Prog.Tp q24 D7k) F9k;have I:=H0u 0 0;have L:=G9j G4 E.sm [73] (by decide);have J:=E2t [[109]] [[109]];have c6:=C1n G4 E.sm [84] [73] (by decide) (by decide);have V:=C1n G4 E.sm [84] [84] (by decide) (by decide);have Z:=G0u G4 lp E.sm;have W:=E2t [[73]] [[73]];rw[H3b]at L;rw[H3q]at c6;rw[F1b]at V;rw[H1g]at Z;rw[Bj rfl]at I J W;simp only[Dg,Jk]at O U I;refine cB func5 ?_;refine sR [0,1,2,3,4] ?_;refine sR [0,1,2,3,4] ?_;refine sR [0,1,2,3,4] ?_;refine sR [0,1,2,3,4] ?_;refine sR [0,1,2,3,4] ?_
 (refine sV [0,1,2,3,4] λK z=>?_;refine cc O ?_;refine cc U ?_;refine cc I ?_;refine cc L ?_;refine cc J ?_;refine cc c6 ?_;refine cc V ?_;refine cc Z ?_;refine cc W ?_;apply z;clear z K)
 exact aR
end Go.Abs
