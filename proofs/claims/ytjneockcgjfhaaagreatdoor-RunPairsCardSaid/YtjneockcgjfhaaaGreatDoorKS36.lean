/- expr.All, visit: the nodes of an expression in order, for a range over a function; expr.Value; step.first -/
import Derived.Test.YtjneockcgjfhaaaGreatDoorKS18
set_option linter.all false
set_option maxHeartbeats 1000000
set_option maxRecDepth 100000
namespace Go.Abs
open Go Go.Proofs Tryz
mutual
def Ex.nodes:Ex->List Ex
 |.mk k n t a ks p=>.mk k n t a ks p::Ex.F4 ks
def Ex.F4:List Ex->List Ex
 |[]=>[]
 |e::es=>e.nodes++Ex.F4 es
end
def A5c(e:Ex):e.nodes=e::Ex.F4 e.kids:=by cases e with|mk k n t a ks p=>rw[Ex.nodes];rfl
def A9y:∀l m:List Ex,Ex.F4 (l++m)=Ex.F4 l++Ex.F4 m
 |[],m=>by rw[Ex.F4];rfl
 |e::l,m=>by rw[Nj,Ex.F4,Ex.F4,A9y l m,H8]
def E2j(e:Ex):Ex.F4 [e]=e.nodes:=by rw[Ex.F4,Ex.F4,Gy]
def I3(l:List Ex):Bool:=l.all λe=>decide (e.kind=3)
def A1w(l m:List Ex):I3 (l++m)=(I3 l && I3 m):=by simp[I3]
def Ki(j:Nat)(l:List Ex):Option Nat:=if I3 l=true then some (j+l.length)else none
structure Fits(Y:Ku)(j:Nat)(l:List Ex):Prop where
 P:Y.P=prog
 N:j+l.length<=Y.N
 at_:∀i e,l[i]?=some e->Y.xs (j+i)=Bg e/\Y.go (j+i)=decide (e.kind=3)
theorem Fits.left{Y:Ku}{j:Nat}{l m:List Ex}(h:Fits Y j (l++m)):Fits Y j l where
 P:=h.P
 N:=by have:=h.N;rw[As]at this;omega
 at_:=λi e E=>h.at_ i e (by rw[N0 (Aw.1 E).1];exact E)
def Fits.right{Y:Ku}{j:Nat}{l m:List Ex}(h:Fits Y j (l++m)):Fits Y (j+l.length) m where
 P:=h.P
 N:=by have:=h.N;rw[As]at this;omega
 at_:=λi e E=>by have:=h.at_ (l.length+i) e (by rw[Ma (by omega)];simpa using E);rw[Xo];exact this
abbrev Xi:List Nat:=[0,1,4,5,7,8,9,16,1000000]
def F3m(f:FuncId)(caps:List SV)(V:∀x:Ex,H6 [] (Bg x::caps)=some (Bg x::caps))(Y:Ku)(l:List Ex)(hl:l.length<=lim)(O:Nat)(I:Fits Y O (Ex.F4 l))
  (hc:∀e,e∈l->∀j,Fits Y j e.nodes->Ch prog f (Bg e::caps) [(1000000,.ghost Y (some j))] (B1 (!I3 e.nodes)) [(1000000,.ghost Y (Ki j e.nodes))]) :
  Ch prog 170 [.d (.slice (Bj l)),.Bk f caps] [(1000000,.ghost Y (some O))] (A7 (Cw (λe=>!I3 e.nodes) l)) [(1000000,.ghost Y (Ki O (Ex.F4 l)))]:=by
 refine bB func170 ?_;refine sR Xi ?_;refine kR Xi λK1 u1=>?_;refine A0.bb (A0.ii l (X:=Unit) (λj _=>[(0,.d (.slice (Bj l))),(1,.Bk f caps),(7,A7 l.length),(8,A7 j)]) (λj _=>[(1000000,.ghost Y (some (O+(Ex.F4 (l.take j)).length)))]) (λj _=>I3 (Ex.F4 (l.take j))=true/\∀y,y∈l.take j->(!I3 y.nodes)=false) () (by simp[Ex.F4,I3]) sS (by simp[ble,A8,Ex.F4]) ?_ ?_);intro _ L;rw[Cx]at L |-;refine Ap B6 Xi ?_;refine A0.stop rfl ?_;simp only[A5,A9,Ac];refine u1 _ _<|sR Xi ?_;rw[Tb L.2];unfold Ki;rw[A6 L.1];exact A0.ret ⟨_,by rw[results170];rfl,.inr rfl,by simp[ble,A8]⟩
 .intro j _ d hd W dp tk a1 L;have a0:Fits Y (O+(Ex.F4 (l.take j)).length) d.nodes:=by
   have J:l=l.take j++(d::l.drop (j+1)):=by rw[<-dp,X5]
   rw[J,A9y,Ex.F4]at I;exact I.right.left
  have E:=hc d W _ a0;refine Ap a1 Xi ?_;refine A0.Ha rfl<|sK λK2 u2=>A0.bb<|sR Xi ?_;cases U:I3 d.nodes with
  |true =>unfold Ki at E;rw[U,A6 rfl]at E;refine A0.F9 Xi [700016] (by decide +kernel) λK z=>?_;refine ev ?_;refine ci (Ck hd) ?_;refine⟨_,_,_,V d,E,rfl,?_⟩;(try refine ev ?_);apply z;clear z K;refine A0.ff rfl (A0.kk (u2 _ _ ?_));clear u2 K2;(refine lV Xi λK z=>?_;refine⟨by first| (unfold B7;omega)| (simp only[B7,lim]at*;omega),?_⟩;(try refine ev ?_);apply z;clear z K;try simp only[A5,]);refine⟨(),?_,sS,?_⟩;rw[tk,A9y,A1w,L.1,E2j,U];refine⟨rfl,λy hy=>?_⟩;rcases C6.1 hy with hy|hy;exact L.2 y hy;rw[Qp.1 hy,U];rfl;rw[tk,A9y,E2j,As,<-Xo];simp[ble,A8]
  |false =>
   unfold Ki at E;rw[U,A3 (by decide)]at E;refine A0.F9 Xi [700016] (by decide +kernel) λK z=>?_;refine ev ?_;refine ci (Ck hd) ?_;refine⟨_,_,_,V d,E,rfl,?_⟩;(try refine ev ?_);apply z;clear z K;refine A0.tt rfl<|sR Xi ?_;rw[Sc hd (by rw[U];rfl) L.2];have J:l=l.take j++(d::l.drop (j+1)):=by rw[<-dp,X5]
   have Z:Ki O (Ex.F4 l)=none:=by unfold Ki;rw[A3];rw[J,A9y,Ex.F4,A1w,A1w,U];simp
   rw[Z];exact A0.ret ⟨_,by rw[results170];rfl,.inr rfl,by simp[ble,A8]⟩
def F4e(l:List Ex):decide (Cw (λe=>!I3 e.nodes) l >= 0) = !I3 (Ex.F4 l):=by
 have L:∀l:List Ex,(∀x,x∈l->I3 x.nodes=true)->I3 (Ex.F4 l)=true:=by
  intro l
  induction l with
  |nil=>intro _;simp[Ex.F4,I3]
  |cons e l O =>intro h;rw[Ex.F4,A1w,h e (by simp),O λx E=>h x (by simp[E])];rfl
 unfold Cw;cases h:l.findIdx? (λe=>!I3 e.nodes)with
 |none =>
  have J:∀x,x∈l->I3 x.nodes=true:=by simpa [Ar1]using h
  rw[L l J];rfl
 |some j =>
  obtain⟨V,U,_⟩:=Ai3.1 h;have hd:l=l.take j++(l[j]::l.drop (j+1)):=by rw[List.getElem_cons_drop,X5]
  have I:I3 l[j].nodes=false:=by simpa using U
  rw[hd,A9y,Ex.F4,A1w,A1w,I];simp
def E7t(f:FuncId)(caps:List SV)(L:H6 [] caps=some caps)(J:∀x:Ex,H6 [] (Bg x::caps)=some (Bg x::caps))(Y:Ku)(l:List Ex)(U:l.length<=lim)(I:Nat)(E:Fits Y I (Ex.F4 l))
  (O:∀e,e∈l->∀j,Fits Y j e.nodes->Ch prog f (Bg e::caps) [(1000000,.ghost Y (some j))] (B1 (!I3 e.nodes)) [(1000000,.ghost Y (Ki j e.nodes))]) :
  Ch prog 250 [.d (.slice (Bj l)),.Bk f caps] [(1000000,.ghost Y (some I))] (B1 (!I3 (Ex.F4 l))) [(1000000,.ghost Y (Ki I (Ex.F4 l)))]:=by have h:=F3m f caps J Y l U I E O;rw[<-F4e];generalize Cw (λe=>!I3 e.nodes) l=k at*;generalize Ki I (Ex.F4 l)=st at*;refine bB func250 ?_;refine sR [0,1,4,1000000] ?_;refine A0.F9 [0,1,4,1000000] [700007] (by decide +kernel) λK z=>?_;refine ev ?_;refine⟨_,_,_,(by rw[L]),h,rfl,?_⟩;(try refine ev ?_);apply z;clear z K;exact A0.ret ⟨_,by rw[results250];rfl,.inr rfl,by simp[ble,A8]⟩
abbrev q2K:List Nat:=[0,1,2,3,4,5,9,1000000]
def F5j(Y:Ku):∀(e:Ex)(j:Nat),Fits Y j e.nodes->Ch prog 228 [Bg e,.Fa Y.l] [(1000000,.ghost Y (some j))] (B1 (I3 e.nodes)) [(1000000,.ghost Y (Ki j e.nodes))]:=by
 intro e
 induction e using Ex.induct with
 |h e ih =>
 intro j J;refine Ch.bd (Enters.of func228 rfl (by decide)) λZ=>?_;have a0:=(C8m Z.1).kids.1;have hP:=J.P;have V:=J.at_ 0 e (by rw[A5c];rfl);have hN:j<Y.N:=by have:=J.N;rw[A5c,Ar]at this;omega
 rw[Xh]at V;have a2:∀k,k∈e.kids->∀i,Fits Y i k.nodes->Ch prog 249 [Bg k,.Fv [.Fa Y.l] 0] [(1000000,.ghost Y (some i))] (B1 (!I3 k.nodes)) [(1000000,.ghost Y (Ki i k.nodes))]:=by intro k U i hi;have:=ih k U i hi;generalize I3 k.nodes=bb at*;generalize Ki i k.nodes=st at*;refine bB func249 ?_;refine sR [0,1,2,3,1000000] ?_;refine A0.F9 [0,1,2,3,1000000] [700006] (by decide +kernel) λK z=>?_;refine ev ?_;refine⟨_,_,_,rfl,this,rfl,?_⟩;(try refine ev ?_);apply z;clear z K;exact A0.ret ⟨_,by rw[results249];rfl,.inr rfl,by simp[ble,A8]⟩
 by_cases U:e.kind=3
 .have W:Fits Y (j+1) (Ex.F4 e.kids):=by
   have:=J;rw[A5c,show e::Ex.F4 e.kids=[e]++Ex.F4 e.kids from rfl]at this;exact this.right
  have a1:=E7t 249 [.Fv [.Fa Y.l] 0] rfl (λ_=>rfl) Y e.kids a0 (j+1) W a2;have E:I3 e.nodes=I3 (Ex.F4 e.kids):=by rw[A5c];simp[I3,U]
  have O:Ki j e.nodes=Ki (j+1) (Ex.F4 e.kids):=by
   unfold Ki;rw[E,A5c,Ar];split
   .congr 1;omega
   .rfl
  rw[E,O];have I:Y.go j=true:=by rw[V.2,Cc U]
  have L:Y.next j=some (j+1):=by unfold Ku.next;rw[A6 I]
  generalize I3 (Ex.F4 e.kids)=bb at*;generalize Ki (j+1) (Ex.F4 e.kids)=st at*;refine bB func228 ?_;refine sR q2K<|sK λK1 u1=>?_
  (refine A0.F9 q2K [700008] (by decide +kernel) λK z=>?_;refine Du I L ?_;refine⟨_,rfl,hP,hN,V.1,?_⟩;(try refine Du I L ?_);apply z;clear z K)
  refine kI u1 ?_;clear u1 K1;refine A0.F0k 3 rfl rfl (wk [(0,Bg e),(1,.Fa Y.l),(2,.box 2 0),(3,.Fv [.Fa Y.l] 0),(4,.d (.bool false))] [(2,.cells (D5 e)),(1000000,.ghost Y (some (j+1)))] ?_);refine sR q2K ?_
  (refine A0.F9 q2K [700014] (by decide +kernel) λK z=>?_;refine ev ?_;refine⟨_,_,_,rfl,a1,rfl,?_⟩;(try simp -implicitDefEqProofs only[EV,Nat.reduceEqDiff,reduceCtorEq,Bool.not_not]);apply z;clear z K)
  exact A0.ret ⟨_,by rw[results228];rfl,.inr rfl,by simp[ble,A8]⟩
 .have I:Y.go j=false:=by rw[V.2,Cu U]
  have L:Y.next j=none:=by unfold Ku.next;rw[A3 (by rw[I];decide)]
  have E:I3 e.nodes=false:=by rw[A5c];simp[I3,U]
  have O:Ki j e.nodes=none:=by unfold Ki;rw[E];rfl
  rw[E,O];refine bB func228 ?_;refine sR q2K<|sK λK1 u1=>?_
  (refine A0.F9 q2K [700008] (by decide +kernel) λK z=>?_;refine Du I L ?_;refine⟨_,rfl,hP,hN,V.1,?_⟩;(try refine Du I L ?_);apply z;clear z K)
  refine tI ?_;refine sR q2K ?_;exact A0.ret ⟨_,by rw[results228];rfl,.inr rfl,by simp[ble,A8]⟩
def D4r:∀l:List Ex,(∀e,e∈l->isVal e=I3 e.nodes)->Te l=I3 (Ex.F4 l)
 |[],_=>by simp[Te,Ex.F4,I3]
 |e::l,h=>by rw[Te,Ex.F4,A1w,h e (by simp),D4r l λx E=>h x (by simp[E])]
def G9j(e:Ex):isVal e=I3 e.nodes:=by
 induction e using Ex.induct with
 |h e E =>
 rw[A4h,A5c,D4r e.kids E,show e::Ex.F4 e.kids=[e]++Ex.F4 e.kids from rfl,A1w];simp[I3,Bool.and_comm]
abbrev q3K:List Nat:=[0,1,2,3,5,6,9,2000002]
def G2n(e:Ex):Ab prog 172 [Bg e] (B1 (isVal e)):=by
 rw[G9j];have hA:Ch prog 204 [Bg e] [] (.Bk 227 [.Aj (Bp e) 0]) []:=by refine bB func204 ?_;refine sR [0,1,2] ?_;refine A0.zz 1 rfl rfl<|sR [0,1,2] ?_;exact A0.ret ⟨_,by rw[results204];rfl,.inr rfl,by simp[ble,A8]⟩
 have L:∀Y:Ku,Fits Y 0 e.nodes->Ch prog 227 [.Fa Y.l,.Aj (Bp e) 0] [(1000000,.ghost Y (some 0))] (.tuple []) [(1000000,.ghost Y (Ki 0 e.nodes))]:=by intro Y V;have W:=F5j Y e 0 V;refine bB func227 ?_;(refine A0.A3a [0,1,1000000] [700005] (by decide +kernel) λK z=>?_;refine ev ?_;refine⟨_,_,_,rfl,W,rfl,?_⟩;(try refine ev ?_);apply z;clear z K;try simp only[A5,A9,Ac]);exact⟨_,by rw[results227];rfl,.inr rfl,by simp[ble,A8]⟩
 refine cB func172 ?_;refine sR q3K ?_;refine kC hA q3K λK1 u1=>?_;refine A0.bb (A0.rangeFunc (caps:=[.Aj (Bp e) 0]) (caps':=[.Aj (Bp e) 0]) (f:=227) (r:=.tuple []) (N:=e.nodes.length) (xs:=λi=>Bg ((e.nodes[i]?).getD e)) (go:=λi=>decide (((e.nodes[i]?).getD e).kind=3)) (jump:=.ret) (ks:=[2000002]) (slR:=[(2,.box 2000002 0)]) (mb:=λ_=>[(2000002,.cells [.d (.bool false)])]) (st:=Ki 0 e.nodes) ⟨⟨_,rfl⟩,by decide,by decide,rfl,λ_=>rfl,by decide,λ_=>rfl,?_⟩ (λ_=>by simp) rfl rfl ?_ ⟨.inr (.inl rfl),trivial⟩ ⟨rfl,trivial⟩ ?_ ?_)
 .intro j I a0 l;have J:=Br I;generalize e.nodes[j]=x at J;simp only[J,Dh];(refine lV q3K λK z=>?_;apply z;clear z K;try simp only[A5,A9,Ac]);refine⟨rfl,?_⟩;refine A0.bb<|sR q3K ?_;refine A0.cond rfl (λO=>?_) (λO=>?_)
  refine sR q3K ?_;refine A0.ret ⟨?_,rfl,⟨rfl,trivial⟩⟩;simp only[J,Dh];simpa using O;refine A0.kk ⟨?_,⟨rfl,trivial⟩⟩;simp only[J,Dh];simpa using O
 intro Y hP hN U Z;refine L Y ⟨hP,by rw[hN];omega,λi x J=>?_⟩;rw[U,Z];simp[J]
 .intro j I _;have E:I3 e.nodes=true:=by
   unfold Ki at I;cases h:I3 e.nodes with
   |true=>rfl
   |false=>rw[h]at I;simp at I
  simp only[A5,A9,Ac];refine u1 _ _ (wk [(2,.box 2 0)] [(2,.cells [.d (.bool false)])] ?_);refine sR q3K ?_;rw[E];exact aR
 .intro I;have E:I3 e.nodes=false:=by
   unfold Ki at I;cases h:I3 e.nodes with
   |true=>rw[h]at I;simp at I
   |false=>rfl
  rw[E];exact⟨_,by rw[results172];rfl,rfl⟩
def D5x{vars:List A2}{args:List Ty}(J:∀u,u∈args->u.Sm):∀t:Ty,t.Sm->(t.subst vars args).Sm:=by
 intro t
 induction t using Ty.induct with
 |h t L =>
 intro h;rw[Uo];split
 .rename_i U;have E:(Cb t.name vars 0).toNat<args.length:=by omega
  rw[Br E,Dh];have:=J _ (Gi E);exact .mk _ _ _ this.name this.len this.arg
 .refine .mk _ _ _ h.name (by rw[Bc];exact h.len) λu O=>?_;obtain⟨x,I,rfl⟩:=Au.1 O;exact L x I (h.arg x I)
def Ex.Sm.subst{vars:List A2}{args:List Ty}(J:∀u,u∈args->u.Sm)(e:Ex):e.Sm->(e.subst vars args).Sm:=by
 induction e using Ex.induct with
 |h e L =>
 intro h;unfold Ex.subst;rw[A0d];refine .mk _ _ _ _ _ _ h.name (D5x J _ h.type) ?_ ?_ ?_ ?_
 .show(e.targs.map (Ty.subst vars args)).length<=sm;rw[Bc];exact h.targs.1
 .intro t ht;have ht:t∈e.targs.map (Ty.subst vars args):=ht;obtain⟨u,E,rfl⟩:=Au.1 ht;exact D5x J _ (h.targs.2 u E)
 .show(e.kids.map _).length<=sm;rw[Bc];exact h.kids.1
 .intro k I;have I:k∈e.kids.map (Ex.mapped (Ex.A2m vars args)):=I;obtain⟨u,E,rfl⟩:=Au.1 I;exact L u E (h.kids.2 u E)
def R6(vars:List A2)(vals:List Ex)(e:Ex):Ex:=if e.kind=1/\0<=Cb e.name vars 0/\Cb e.name vars 0<vals.length then(vals[(Cb e.name vars 0).toNat]?).getD e else e
def Ex.Eo(vars:List A2)(vals:List Ex):Ex->Ex:=Ex.mapped (R6 vars vals)
abbrev Qq:List Nat:=[0,1,2,3,4,5,22]
def F9g(vars:List A2)(vals:List Ex)(ha:∀u,u∈vals->u.Sm)(e:Ex) :Ab prog 209 [Bg e,.Aj [.slice (Ba vars)] 0,.Aj [.slice (Bj vals)] 0] (Bg (R6 vars vals e)):=by
 have J:=E3p vars e.name;unfold R6;generalize Cb e.name vars 0=k at*;by_cases W:e.kind=1
 .have E:Bg e=.agg [.d (.int .i64 1),.d (.str e.name),.d (.str e.type.name),.d (.slice (Ag e.type.args)),.d (.int .i64 e.type.pos),.d (.slice (Ag e.targs)),.d (.slice (Bj e.kids)),.d (.int .i64 e.pos)]:=by rw[<-W]
  by_cases V:k<0;rw[A3 (by omega),E];refine cB func209 ?_;refine sR Qq ?_;refine sC J Qq ?_;refine Ae V Qq λL u1=>?_;refine tI ?_;refine sR Qq ?_;exact aR
  .by_cases U:k<vals.length
   .rw[A6 ⟨W,by omega,U⟩];have I:¬k >= (vals.length:Int):=by omega
    have O:vals[k.toNat]?=some vals[k.toNat]:=Br (by omega);rw[O,Dh];have hm:=ha _ (Bm O);generalize vals[k.toNat]=u at*;have Z:=A4k u hm;rw[E];refine cB func209 ?_;refine sR Qq ?_;refine sC J Qq ?_;refine P4 V I Qq λL u1=>?_;refine kI u1 ?_;clear u1 L;refine sV Qq λK z=>?_;refine ci (Ck O) ?_;refine cc Z ?_;apply z;clear z K;exact aR
   .rw[A3 (by omega),E];have I:k >= (vals.length:Int):=by omega
    refine cB func209 ?_;refine sR Qq ?_;refine sC J Qq ?_;refine P4 V I Qq λL u1=>?_;refine tI ?_;refine sR Qq ?_;exact aR
 rw[A3 (by omega)];refine cB func209 ?_;refine sR Qq ?_;refine sC J Qq ?_;refine Ae W Qq λL u1=>?_;refine tI ?_;refine sR Qq ?_;exact aR
def G3p(vars:List A2)(vals:List Ex)(J:∀u,u∈vals->u.Sm)(e:Ex)(E:e.Sm):Ab prog 177 [Bg e,Ce vars,.d (.slice (Bj vals))] (Bg (e.Eo vars vals)):=by
 have L:=D3x 209 [.Aj [.slice (Ba vars)] 0,.Aj [.slice (Bj vals)] 0] rfl rfl (R6 vars vals)
  (λe ks h=>F9g vars vals J (e.Hz ks)) e E
 have I:=A4k e E;refine cB func177 ?_;refine sR [0,1,2,3,4,5,6] ?_;refine A0.zz 4 rfl rfl<|A0.zz 5 rfl rfl<|A0.ww (sl':=[(3,.box 3 0),(4,.Aj [.slice (Ba vars)] 0),(5,.Aj [.slice (Bj vals)] 0),(6,.box 6 0)])
  (bx':=[(3,.cells ((Bp e).map .d)),(6,.cells [.d (.int .i64 0),.d (.str []),.d (.str []),.d .nil,.d (.int .i64 0),.d .nil,.d .nil,.d (.int .i64 0)])])
  (by simp[M6,SV.sub,SV.Kj,sle,Av,Af]) (by simp[Ld,Aq.sub,SV.Kj,SV.sub,ble,A8,C5,Bp]) ?_
 refine sV [0,1,2,3,4,5,6] λK z=>?_;refine cc I ?_;refine cc L ?_;apply z;clear z K;exact aR
abbrev q2L:List Nat:=[0,1,2,3,6,7,8,30,67]
def B6k(vars:List A2)(args:List Ty)(U:∀u,u∈args->u.Sm)(e:Ex):e.Sm->Ab prog 61 [Bg e,Ce vars,Co args] (Bg (e.subst vars args)):=by
 induction e using Ex.induct with
 |h e Z =>
 intro E;have W:=E.kids.1;have V:=Q0 vars args U e.type E.type;have h2:=D7b vars args U e.targs E.targs.1 E.targs.2;have J:e.subst vars args=.mk e.kind e.name (e.type.subst vars args) (e.targs.map (Ty.subst vars args)) (e.kids.map (Ex.subst vars args)) e.pos:=by unfold Ex.subst;rw[A0d];rfl
 rw[J];generalize e.type.subst vars args=T at*;generalize e.targs.map (Ty.subst vars args)=A at*;refine cB func61 ?_;refine sR q2L ?_
 (refine sG q2L [] 18 gg λK z=>?_;refine ev ?_;refine cc V ?_;refine cc h2 ?_;apply z;clear z K)
 refine A0.Nz 67 8 7 6 rfl rfl (by decide)<|kR q2L λK1 u1=>?_;refine A0.bb (A0.ii e.kids (X:=Unit) (λj _=>[(1,Ce vars),(2,Co args),(3,.box 3 0),(6,.box 6 0),(7,.box 7 0),(8,A7 j)]) (λj _=>[(3,.cells (D5 e)),(6,.cells [.d (.int .i64 0),.d (.str []),.d (.str []),.d .nil,.d (.int .i64 0),.d .nil,.d .nil,.d (.int .i64 0)]),(7,.cells [.d (.int .i64 e.kind),.d (.str e.name),.d (.str T.name),.d (.slice (Ag T.args)),.d (.int .i64 T.pos),.d (.slice (Ag A)),.acc 67,.d (.int .i64 e.pos)]),(67,.rows 8 (Bj ((e.kids.take j).map (Ex.subst vars args))))]) (λj _=>True) () trivial sS (by simp[ble,A8,I0,D5]) ?_ ?_)
 .intro _ _;rw[Cx];refine Ae B6 q2L λL u2=>?_;refine A0.ss rfl ?_;simp only[A5,A9,Ac];refine u1 _ _<|sR q2L ?_;exact aR
 .intro j _ d hd I dp tk O _;rw[tk];refine Ae O q2L λL u2=>?_;refine gI u2 ?_;clear u2 L;refine sK λL u2=>A0.bb ?_
  (refine lG q2L [] 11 [] λK z=>?_;refine ev ?_;refine ci (Ck hd) ?_;refine cc (Z d I (E.kids.2 d I)) ?_;refine⟨by simp,by simp only[Bc,D0];unfold lim sm at*;omega,?_⟩;(try refine ev ?_);apply z;clear z K;try simp only[A5,A9])
  refine u2 _ _ ?_;clear u2 L;refine lT q2L ?_;exact⟨(),trivial,sS,by simp[ble,A8,I0,Bp,D5]⟩
abbrev q3L:List Nat:=[0,1,2,3,6,7,8,30,67]
def G9w(k:Int)(n:A2)(T:Ty)(A:List Ty)(p:Int)(hT:T.Sm)(O:A.length<=sm)(E:∀t,t∈A->t.Sm):Ch prog 61 [Bg (.mk k n T A [] p),Ce [],Co []] []
  (.agg [.d (.int .i64 k),.d (.str n),.d (.str T.name),.d (.slice (Ag T.args)),.d (.int .i64 T.pos),.d (.slice (Ag A)),.d .nil,.d (.int .i64 p)]) []:=by
 have I:=Q0 [] [] (by simp) T hT;have J:=D7b [] [] (by simp) A O E;rw[Q7]at I;rw[show A.map (Ty.subst [] [])=A by rw[Hb (g:=id) λt _=>Q7 t];simp]at J;have L:Bg (.mk k n T A [] p)=.agg [.d (.int .i64 k),.d (.str n),.d (.str T.name),.d (.slice (Ag T.args)),.d (.int .i64 T.pos),.d (.slice (Ag A)),.d (.slice (Bj [])),.d (.int .i64 p)]:=rfl;rw[L];refine bB func61 ?_;refine sR q3L ?_;refine sG q3L [] 18 gg λK z=>?_;refine ev ?_;refine cc I ?_;refine cc J ?_;apply z;clear z K;refine kR q3L λV u1=>?_;refine A0.bb (A0.ii ([]:List Ex) (X:=Unit) (λj _=>[(3,.box 3 0),(6,.box 6 0),(7,.box 7 0),(8,A7 j)]) (λj _=>[(3,.cells [.d (.int .i64 k),.d (.str n),.d (.str T.name),.d (.slice (Ag T.args)),.d (.int .i64 T.pos),.d (.slice (Ag A)),.d (.slice (Bj [])),.d (.int .i64 p)]),(6,.cells [.d (.int .i64 0),.d (.str []),.d (.str []),.d .nil,.d (.int .i64 0),.d .nil,.d .nil,.d (.int .i64 0)]),(7,.cells [.d (.int .i64 k),.d (.str n),.d (.str T.name),.d (.slice (Ag T.args)),.d (.int .i64 T.pos),.d (.slice (Ag A)),.d .nil,.d (.int .i64 p)])]) (λj _=>True) () trivial sS sB ?_ ?_);intro _ _;refine Ae B6 q3L λU u2=>?_;refine A0.ss rfl ?_;simp only[A5,A9,Ac];refine u1 _ _<|sR q3L ?_;exact A0.ret ⟨_,by rw[results61];rfl,.inl rfl,by simp[ble]⟩
 intro j _ d hd;simp at hd
def F4i(vars:List A2)(vals:List Ex)(e:Ex):e.Eo vars vals=R6 vars vals (e.Hz (e.kids.map (Ex.Eo vars vals))):=by unfold Ex.Eo;rw[A0d]
abbrev M9:List Nat:=[0,1,2,3,6,7,8,9,18,33,45,62,67]
def E8o(vars:List A2)(vals:List Ex)(ha:∀u,u∈vals->u.Sm)(e:Ex):e.Sm->Ab prog 157 [Bg e,Ce vars,.d (.slice (Bj vals))] (Bg (e.Eo vars vals)):=by
 induction e using Ex.induct with
 |h e ih =>
 intro L;have a4:=L.kids.1;refine Ch.bd (Enters.of func157 rfl (by decide)) λa3=>?_;have hv:=(A9s a3.2.1).1;have E:=F4i vars vals e;unfold R6 at E;rw[show(e.Hz (e.kids.map (Ex.Eo vars vals))).kind=e.kind from rfl,show(e.Hz (e.kids.map (Ex.Eo vars vals))).name=e.name from rfl]at E;have h0:=G9w e.kind e.name e.type e.targs e.pos L.type L.targs.1 L.targs.2;refine cB func157 ?_;refine sR M9 ?_;refine kR M9 λK1 u1=>?_;have O:¬(e.kind=1/\0<=Cb e.name vars 0/\Cb e.name vars 0<vals.length)->∀sl bx,sle sl [(1,Ce vars),(2,.d (.slice (Bj vals))),(3,.box 3 0),(6,.box 6 0)] ->ble bx [(3,.cells (D5 e)),(6,.cells [.d (.int .i64 0),.d (.str []),.d (.str []),.d .nil,.d (.int .i64 0),.d .nil,.d .nil,.d (.int .i64 0)])]->K1 sl bx:=by
  intro hc sl bx h1 h2;refine u1 _ _ (A0.ww h1 h2 ?_);clear u1 K1
  erw [A3 hc]at E
  rw[E];clear E;refine sC h0 M9 ?_;refine A0.Nz 67 8 8 6 rfl rfl (by decide)<|kR M9 λK1 u1=>?_;refine A0.bb (A0.ii e.kids (X:=Unit) (λj _=>[(1,Ce vars),(2,.d (.slice (Bj vals))),(3,.box 3 0),(6,.box 6 0),(8,.box 8 0),(9,A7 j)]) (λj _=>[(3,.cells (D5 e)),(6,.cells [.d (.int .i64 0),.d (.str []),.d (.str []),.d .nil,.d (.int .i64 0),.d .nil,.d .nil,.d (.int .i64 0)]),(8,.cells [.d (.int .i64 e.kind),.d (.str e.name),.d (.str e.type.name),.d (.slice (Ag e.type.args)),.d (.int .i64 e.type.pos),.d (.slice (Ag e.targs)),.acc 67,.d (.int .i64 e.pos)]),(67,.rows 8 (Bj ((e.kids.take j).map (Ex.Eo vars vals))))]) (λj _=>True) () trivial sS (by simp[ble,A8,C5,I0,D5]) ?_ ?_)
  .intro _ _;rw[Cx];refine Ae B6 M9 λU u2=>?_;refine A0.ss rfl ?_;simp only[A5,A9,Ac];refine u1 _ _<|sR M9 ?_;exact aR
  .intro j _ d hd J dp tk a0 _;rw[tk];refine Ae a0 M9 λU u2=>?_;refine gI u2 ?_;clear u2 U;refine sK λU u2=>A0.bb ?_
   (refine lG M9 [] 11 [] λK z=>?_;refine ev ?_;refine ci (Ck hd) ?_;refine cc (ih d J (L.kids.2 d J)) ?_;refine⟨by simp,by simp only[Bc,D0];unfold lim sm at*;omega,?_⟩;(try refine ev ?_);apply z;clear z K;try simp only[A5,A9,Ac])
   refine u2 _ _ ?_;clear u2 U
   (refine lV M9 λK z=>?_;refine cl ?_;apply z;clear z K;try simp only[A5,A9,Ac])
   exact⟨(),trivial,sS,by simp[ble,A8,I0,Bp,D5]⟩
 by_cases hk:e.kind=1
 .have a2:D5 e=[.d (.int .i64 1),.d (.str e.name),.d (.str e.type.name),.d (.slice (Ag e.type.args)),.d (.int .i64 e.type.pos),.d (.slice (Ag e.targs)),.d (.slice (Bj e.kids)),.d (.int .i64 e.pos)]:=by rw[<-hk]
  rw[a2]at O;refine A0.bb (A0.ii vars (X:=Unit) (λj _=>[(1,Ce vars),(2,.d (.slice (Bj vals))),(3,.box 3 0),(6,.box 6 0),(7,A7 j)]) (λ_ _=>[(3,.cells [.d (.int .i64 1),.d (.str e.name),.d (.str e.type.name),.d (.slice (Ag e.type.args)),.d (.int .i64 e.type.pos),.d (.slice (Ag e.targs)),.d (.slice (Bj e.kids)),.d (.int .i64 e.pos)]),(6,.cells [.d (.int .i64 0),.d (.str []),.d (.str []),.d .nil,.d (.int .i64 0),.d .nil,.d .nil,.d (.int .i64 0)])]) (λj _=>Cb e.name (vars.drop j) j=Cb e.name vars 0) () rfl sS (by simp[ble,A8,D5,hk]) ?_ ?_)
  .intro _ Z;refine Ae B6 M9 λU u2=>?_;refine A0.ss rfl ?_;simp only[A5,A9,Ac];rw[D3,Cb]at Z;exact O (by rw[<-Z];simp) _ _ sS (by simp[ble,A8,Bp,Bs,Gs,E9,Dm,B3,Ai])
  .intro j _ d hd J dp tk a0 Z;rw[dp,Cb]at Z;refine Ae a0 M9 λU u2=>?_;refine gI u2 ?_;clear u2 U;refine sK λU u2=>A0.bb ?_;by_cases W:e.name=d
   .rw[A6 W]at Z;by_cases I:(j:Int)<(vals.length:Int)
    .have hx:vals[j]?=some vals[j]:=Br (by omega);rw[<-Z,A6 ⟨hk,by omega,I⟩,Hx,hx,Dh]at E;have hm:=ha _ (Bm hx);generalize vals[j]=u at*;have hc:=B6k [] [] (by simp) u hm;rw[B6n]at hc;rw[E];refine sK λK3 u3=>?_
     (refine sG M9 [] 11 [] λK z=>?_;refine Du W.symm I ?_;refine⟨by omega,_,J7 hd,rfl,?_⟩;(try refine Du W.symm I ?_);apply z;clear z K)
     refine tI ?_
     (refine sV M9 λK z=>?_;refine ci (Ck hx) ?_;refine cc hc ?_;apply z;clear z K)
     exact aR
    .refine sK λK3 u3=>?_
     (refine sG M9 [] 11 [] λK z=>?_;refine Du W.symm I ?_;refine⟨by omega,_,J7 hd,rfl,?_⟩;(try refine Du W.symm I ?_);apply z;clear z K)
     refine kI u3 ?_;clear u3 K3
     (refine sG M9 [] 6 [] λK z=>?_;refine Ah W.symm ?_;refine⟨by omega,_,J7 hd,rfl,?_⟩;(try refine Ah W.symm ?_);apply z;clear z K)
     refine A0.tt rfl (A0.xx ?_);simp only[A5,A9,reduceIte,Nat.zero_ne_one,Exit.exit.injEq];have hj:Cb e.name vars 0=(j:Int):=Z.symm;exact O (by rw[hj];omega) _ _ sS (by simp[ble,A8,Bp,Bs,Gs,E9,Dm,B3,Ai])
   .rw[A3 W]at Z;have V:¬d=e.name:=λh=>W h.symm;refine sK λK3 u3=>?_
    (refine sG M9 [] 11 [] λK z=>?_;refine Ah V ?_;refine⟨by omega,_,J7 hd,rfl,?_⟩;(try refine Ah V ?_);apply z;clear z K)
    refine kI u3 ?_;clear u3 K3
    (refine sG M9 [] 6 [] λK z=>?_;refine Ah V ?_;refine⟨by omega,_,J7 hd,rfl,?_⟩;(try refine Ah V ?_);apply z;clear z K)
    refine A0.ff rfl (A0.kk (u2 _ _ ?_));clear u2 U
    (refine lV M9 λK z=>?_;refine cl ?_;apply z;clear z K;try simp only[A5,A9,Ac])
    exact⟨(),Z,sS,(by simp[ble,A8,Bp,Bs,Gs,E9,Dm,B3,Ai])⟩
 .have a1:¬(e.kind=1/\0<=Cb e.name vars 0/\Cb e.name vars 0<vals.length):=λh=>hk h.1;refine A0.bb (A0.ii ([]:List Nat) (X:=Unit) (λj _=>[(1,Ce vars),(2,.d (.slice (Bj vals))),(3,.box 3 0),(6,.box 6 0),(7,A7 0)]) (λ_ _=>[(3,.cells (D5 e)),(6,.cells [.d (.int .i64 0),.d (.str []),.d (.str []),.d .nil,.d (.int .i64 0),.d .nil,.d .nil,.d (.int .i64 0)])]) (λj _=>True) () trivial sS (by simp[ble,A8,D5]) ?_ ?_)
  .intro _ _;refine sK λU u2=>?_;by_cases he:(0:Int)<(vars.length:Int)
   .refine Er hk he M9 ?_;refine A0.ss rfl ?_;simp only[A5,A9,Ac];exact O a1 _ _ sS (by simp[ble,A8,D5])
   .refine Er hk he M9 ?_;refine A0.ss rfl ?_;simp only[A5,A9,Ac];exact O a1 _ _ sS (by simp[ble,A8,D5])
  .intro j _ d hd;simp at hd
abbrev Zx:List Nat:=[0,1,4,5,7,8,9,16]
def F1z(f:FuncId)(caps:List SV)(O:∀x:Ex,H6 [] (Bg x::caps)=some (Bg x::caps))(p:Ex->Bool)(l:List Ex)(W:l.length<=sm)(hs:∀t,t∈l->Ab prog f (Bg t::caps) (.d (.bool (p t)))) :Ab prog 170 [.d (.slice (Bj l)),.Bk f caps] (A7 (Cw p l)):=by
 refine cB func170 ?_;refine sR Zx ?_;refine kR Zx λZ u1=>?_;refine A0.bb (A0.ii l (X:=Unit) (λj _=>[(0,.d (.slice (Bj l))),(1,.Bk f caps),(7,A7 l.length),(8,A7 j)]) (λ_ _=>[]) (λj _=>∀y,y∈l.take j->p y=false) () (by simp) sS sB ?_ ?_);intro _ E;rw[Cx]at E;refine Ap B6 Zx ?_;refine A0.stop rfl ?_;simp only[A5,A9,Ac];refine u1 _ _<|sR Zx ?_;rw[Tb E];exact aR
 .intro j _ d hd I V tk L E;refine Ap L Zx ?_;refine A0.Ha rfl<|sK λU u2=>A0.bb<|sR Zx ?_
  refine sV Zx λK z=>?_;refine ci (Ck hd) ?_;refine⟨_,.inl ⟨_,O d,hs d I,rfl⟩,?_⟩;(try refine ev ?_);apply z;clear z K;refine A0.cond rfl (λJ=>?_) (λJ=>?_);refine sR Zx ?_;rw[Sc hd J E];exact aR;refine A0.kk (u2 _ _ ?_);clear u2 U;refine lT Zx ?_;refine⟨(),?_,sS,sB⟩;rw[tk];intro y hy;rcases C6.1 hy with hy|hy;exact E y hy;simp only[B5,Fb,Fg]at hy;rw[hy];exact J
def B7r(e:Ex):Int:=Cw (λk=>!isVal k) e.kids
def E7r(e:Ex)(h:e.Sm):Ab prog 128 [Bg e] (A7 (B7r e)):=by
 have E:∀k:Ex,Ab prog 171 [Bg k] (B1 (!isVal k)):=λk=>by have I:=G2n k;generalize isVal k=b at*;refine cB func171 ?_;refine sR [0,1,2] ?_;refine sC I [0,1,2] ?_;exact aR
 have J:=F1z 171 [] (λ_=>rfl) (λk=>!isVal k) e.kids h.kids.1 (λt _=>E t);unfold B7r;generalize Cw (λk=>!isVal k) e.kids=k at*;refine cB func128 ?_;refine sR [0,1,2] ?_;refine sC J [0,1,2] ?_;exact aR
def fieldsD(d:Decl)(x:Ty):List Param:=d.fields.map (Param.subst (Ad d.A1) x.args)
def Bo(p:Prog)(x:Ty):List Param:=if Bb p x 1=true then fieldsD ((Fk p x.name).getD default) x else[]
abbrev Rg:List Nat:=[0,1,3,4,5,6,7,8,10,18,20,21,22,23]
def F2m(p:Prog)(h:p.Sm)(x:Ty)(Z:x.Sm):Ab prog 178 [.Aj (G1 p) 0,Be x] (.tuple [.d (.slice (Ay (Bo p x))),B1 (Bb p x 1)]):=by
 have I:=B8x p h x 1 (by decide);unfold Bo;rcases Fj (Bb p x 1)with hi|hi
 .obtain⟨E,L,_⟩:=N4 (by decide) hi;rw[hi,A6 rfl];rw[L,Dh,hi]at I;rw[L,Dh];have J:=h.decls.2 E (Qb L);have a0:=J.fields.1;have hn:=C0c E.A1 J.A1.1;unfold fieldsD;refine cB func178 ?_;refine sR Rg ?_;refine sC I Rg ?_;refine kR Rg λW u1=>?_;refine kI u1 ?_;clear u1 W;refine sR Rg ?_;refine A0.pp 8 5 8 rfl<|kR Rg λW u1=>?_;refine A0.bb (A0.ii E.fields (X:=Unit) (λj _=>[(3,.box 3 0),(6,.box 6 0),(8,.acc 8),(20,.d (.slice (Ay E.fields))),(21,A7 E.fields.length),(22,A7 j)]) (λj _=>[(3,.cells [.d (.str x.name),Co x.args,A7 x.pos]),(6,.cells ((B3 E).map .d)),(8,.rows 5 (Ay ((E.fields.take j).map (Param.subst (Ad E.A1) x.args))))]) (λj _=>True) () trivial sS (by simp[ble,A8,Ay,B3]) ?_ ?_)
  intro _ _;rw[Cx];refine Ap B6 Rg ?_;refine A0.stop rfl ?_;simp only[A5,A9,Ac];refine u1 _ _<|sR Rg ?_;exact aR
  .intro j _ d hd U dp tk V _;rw[tk];have O:=C0q (Ad E.A1) x.args Z.arg d.type (J.fields.2 d U).type;refine Ap V Rg ?_;refine A0.Ha rfl<|sK λK2 u2=>A0.bb ?_
   refine sV Rg λK z=>?_;refine ci (Dx hd) ?_;apply z;clear z K;(refine lG Rg [] 15 [] λK z=>?_;refine ev ?_;refine cc hn ?_;refine cc O ?_;refine⟨by simp,by simp only[Bc,D0];unfold lim sm at*;omega,?_⟩;(try refine ev ?_);apply z;clear z K;try simp only[A5,A9]);refine u2 _ _ ?_;clear u2 K2;refine lT Rg ?_;exact⟨(),trivial,sS,by simp[ble,A8,Ay,B3,E9,Param.subst]⟩
 rw[hi]at I |-;rw[A3 (by decide)];generalize(Fk p x.name).getD default=E at*;refine cB func178 ?_;refine sR Rg ?_;refine sC I Rg ?_;refine kR Rg λW u1=>?_;refine tI ?_;refine sR Rg ?_;exact aR
def A2h(E:List (List Ty)):List (List D):=E.map λl=>[.slice (Ag l)]
def E2s{E:List (List Ty)}{j:Nat}{l:List Ty}(h:E[j]?=some l):(A2h E)[j]?=some [.slice (Ag l)]:=by simp[A2h,h]
abbrev Pp:List Nat:=[0,2,3,5,6,8,9,10,11,12,20,24,25,26,27,28]
def G2a(E:List (List Ty))(hl:E.length<=sm)(Z:(E.map List.length).sum<=2*sm):Ab prog 176 [.d (.slice (A2h E))] (.d (.slice (Ag E.flatten))):=by
 refine cB func176 ?_;refine sR Pp ?_;refine sR Pp ?_;refine kR Pp λO u1=>?_;refine A0.bb (A0.ii E (X:=Unit) (λj _=>[(0,.d (.slice (A2h E))),(3,A7 (((E.take j).map List.length).sum:Nat)),(9,.d (.slice (A2h E))),(10,A7 E.length),(11,A7 j)]) (λ_ _=>[]) (λj _=>True) () trivial (by simp[sle,Av,Af,A2h]) sB ?_ ?_)
 .intro _ _;rw[Cx];refine Ap B6 Pp ?_;refine A0.stop rfl ?_;simp only[A5,A9,Ac];refine u1 _ _ ?_;clear u1 O;refine A0.F9 Pp [800024] (by decide +kernel) λK z=>?_;refine ev ?_;refine⟨_,_,_,E6u 24 rfl rfl rfl (G7y _ (by unfold sm at Z;omega)) rfl (by decide) rfl,?_⟩;simp only[SV.Ep,B7h,Ac];(try refine ev ?_);apply z;clear z K;refine kR Pp λO u1=>?_;refine A0.bb (A0.ii E (X:=Unit) (λj _=>[(6,.acc 24),(25,.d (.slice (A2h E))),(26,A7 E.length),(27,A7 j)]) (λj _=>[(24,.rows 3 (Ag (E.take j).flatten))]) (λj _=>True) () trivial (by simp[sle,Av,Af,A2h]) (by simp[ble,A8,H3]) ?_ ?_);intro _ _;rw[Cx];refine Ap B6 Pp ?_;refine A0.stop rfl ?_;simp only[A5,A9,Ac];refine u1 _ _ ?_;clear u1 O;refine sR Pp ?_;exact aR
  .intro j _ d hd L W tk J hI;have I:=E2g E (j+1);rw[tk,Hc,At9]at I;simp only[Cp,It,Nf,List.sum_nil,Xh]at I;rw[tk,List.flatten_append,Aq7,List.flatten_nil,Gy];refine Ap J Pp ?_;refine A0.Ha rfl<|sK λV u2=>A0.bb ?_
   refine sV Pp λK z=>?_;refine ci (E2s hd) ?_;apply z;clear z K;(refine lV Pp λK z=>?_;refine⟨A4x _,by rw[List.length_flatten];unfold lim sm at*;omega,?_⟩;(try refine ev ?_);apply z;clear z K;try simp only[A5,A9]);refine u2 _ _ ?_;clear u2 V;refine lT Pp ?_;exact⟨(),trivial,sS,by simp[ble,A8,H3]⟩
 .intro j _ d hd L W tk J hI;have I:=E2g E (j+1);rw[tk,Hc,At9]at I;simp only[Cp,It,Nf,List.sum_nil,Xh]at I;have U:¬(((((E.take j).map List.length).sum:Nat):Int)+(d.length:Int)<0):=by omega
  rw[tk,Hc,At9];simp only[Cp,It,Nf,List.sum_nil,Xh];refine Ap J Pp ?_;refine A0.Ha rfl<|sK λV u2=>A0.bb ?_
  refine sV Pp λK z=>?_;refine ci (E2s hd) ?_;apply z;clear z K;refine sV Pp λK z=>?_;refine ca ?_;apply z;clear z K;refine Ap U Pp ?_;refine A0.ff rfl (A0.kk (u2 _ _ ?_));clear u2 V;refine lT Pp ?_;exact⟨(),trivial,sS,sB⟩
def C0.C5w{S:Nat->Prop}{w:World}{v:Value}(h:C0 S w (.slice []) v):C0 S w .nil v\/C0 S w .emp v:=by
 cases h with
 |Lw a cap E =>
  cases a with
  |none=>rw[E rfl];exact .inl .nil
  |some a=>exact .inr (.emp a cap)
 |slice rows b off cap sz _ _ _ _ _ _ _=>exact .inr (.emp _ cap)
def Ch.C5w{P:Program}{f:FuncId}{r:SV}{bx:Aa}(O:Ch P f [.d .nil] [] r bx)(W:Ch P f [.d .emp] [] r bx):Ch P f [.d (.slice [])] [] r bx:=by
 refine⟨O.1,λC β vs U L=>?_⟩;obtain⟨v,I,E⟩:=L.get (j:=0) (c:=.d (.slice [])) rfl;have J:vs=[v]:=by
  have V:=L.1
  match vs,V with
  |[u],_=>simpa using I
 subst J;rcases E.Gq.C5w with h|h;exact O.2 C β _ U (.cons (.d _ _ h) .nil);exact W.2 C β _ U (.cons (.d _ _ h) .nil)
def F4h(l:List A2)(I:l.length<=sm):Ch prog 174 [Ce l] [] (.acc 5) [(5,.rows 1 (Ba l))]:=by
 cases l with
 |nil =>
  rw[show Ba []=[] from rfl];refine Ch.C5w ?_ ?_;refine bB func174 ?_;refine sR [0,2,4] ?_;refine kR [0,2,4] λE u1=>?_;refine tI ?_;refine sR [0,2,4] ?_;refine A0.pp 5 1 2 rfl<|A0.ret ⟨_,by rw[results174];rfl,.inl rfl,by simp[ble,A8]⟩
  refine bB func174 ?_;refine sR [0,2,4] ?_;refine kR [0,2,4] λE u1=>?_;refine kI u1 ?_;clear u1 E;refine A0.F9 [0,2,4,5] [5] (by decide +kernel) λK z=>?_;refine ev ?_;apply z;clear z K;exact A0.ret ⟨_,by rw[results174];rfl,.inl rfl,by simp[ble,A8]⟩
 |cons x xs =>
  refine bB func174 ?_;refine sR [0,2,4] ?_;refine kR [0,2,4] λE u1=>?_;refine kI u1 ?_;clear u1 E;refine A0.F9 [0,2,4,5] [5] (by decide +kernel) λK z=>?_;refine ev ?_;refine⟨V0 _,by have:=I;simp only[Ar]at this;unfold lim sm at*;omega,?_⟩;(try refine ev ?_);apply z;clear z K;exact A0.ret ⟨_,by rw[results174];rfl,.inl rfl,by simp[ble,A8]⟩
def Ga(p:Prog)(x:Ty)(m:A2):Option Decl:=if Bb p x 1=true then(match p.decls.find? (Ez x.name m)with
 |some d=>if d.vars.length=x.args.length then some d else none
 |none=>none)else none
def G0d(p:Prog)(nm m:A2):A2v p (Hn nm (46::m))=p.decls.find? (Ez nm m):=by unfold A2v;rw[<-C9v];rfl
def V5:Ex:=.mk 0 [] (.mk [] [] 0) [] [] 0
def C1g:V5.Sm:=.mk _ _ _ _ _ _ (by simp) (.mk _ _ _ (by simp) (by simp) (by simp)) (by simp) (by simp) (by simp) (by simp)
def G9t(d:Decl)(h:d.Sm):Ab prog 207 [Pz d] (Pz d):=by have E:=E5c ⟨[d],.mk 0 [] (.mk [] [] 0) [] [] 0⟩ ⟨⟨show 1<=sm by decide,λt ht=>by rw[Qp.1 ht];exact h⟩,C1g⟩;have I:=Ek (l:=[d]) (i:=0) rfl;refine cB func207 ?_;refine sR [0,1,2] ?_;refine sV [0,1,2] λK z=>?_;refine cc E ?_;refine cj I ?_;apply z;clear z K;exact aR
abbrev L4:List Nat:=[0,1,2,4,6,7,8,9,11,42]
def G4s(p:Prog)(h:p.Sm)(x:Ty)(hx:x.Sm)(m:A2)(hm:m.length<=60000000*sm):Ab prog 173 [.Aj (G1 p) 0,Be x,B4 m] (.tuple [Pz ((Ga p x m).getD default),B1 (Ga p x m).isSome]):=by
 have J:=D9u p h x.name (46::m);rw[G0d]at J;have I:=B8x p h x 1 (by decide);unfold Ga;generalize(Fk p x.name).getD default=dd at*;cases U:p.decls.find? (Ez x.name m)with
 |none =>
  rw[U]at J;simp only[Rv,Nb]at J;have e:(if Bb p x 1=true then(none:Option Decl)else none)=none:=by split <;> rfl
  simp only[e,Rv,Nb];generalize Bb p x 1=bb at*;refine cB func173 ?_;refine sR L4 ?_;refine sV L4 λK z=>?_;refine⟨by unfold lim sm at*;omega,?_⟩;(try refine ev ?_);refine cc J ?_;apply z;clear z K;refine kC I L4 λO u1=>?_;cases bb;refine sR L4 ?_;refine tI ?_;refine sR L4 ?_;exact aR;refine sR L4 ?_;refine tI ?_;refine sR L4 ?_;exact aR
 |some d =>
  rw[U]at J;simp only[Dh,Ak5]at J;have V:=Aj0 U;have W:=G9t d (h.decls.2 d V);cases Z:Bb p x 1 with
  |false =>rw[Z]at I;simp only[I5,Fm,Rv,Nb];refine cB func173 ?_;refine sR L4 ?_;refine sV L4 λK z=>?_;refine⟨by unfold lim sm at*;omega,?_⟩;(try refine ev ?_);refine cc J ?_;apply z;clear z K;refine kC I L4 λO u1=>?_;refine sR L4 ?_;refine tI ?_;refine sR L4 ?_;exact aR
  |true =>
   rw[Z]at I;by_cases L:d.vars.length=x.args.length
   .have E:(d.vars.length:Int)=x.args.length:=by omega
    simp only[Ac,A6 L,Dh,Ak5];refine cB func173 ?_;refine sR L4 ?_;refine sV L4 λK z=>?_;refine⟨by unfold lim sm at*;omega,?_⟩;(try refine ev ?_);refine cc J ?_;apply z;clear z K;refine kC I L4 λO u1=>?_;refine Ap E L4 ?_;refine kI u1 ?_;clear u1 O;refine sC W L4 ?_;exact aR
   .have E:¬(d.vars.length:Int)=x.args.length:=by omega
    simp only[Ac,A3 L,Rv,Nb];refine cB func173 ?_;refine sR L4 ?_;refine sV L4 λK z=>?_;refine⟨by unfold lim sm at*;omega,?_⟩;(try refine ev ?_);refine cc J ?_;apply z;clear z K;refine kC I L4 λO u1=>?_;refine Ap E L4 ?_;refine tI ?_;refine sR L4 ?_;exact aR
abbrev Wo:List Nat:=[0,1,2,3,4,5,6,7,8,21]
def B2d(p:Prog)(h:p.Sm)(x:Ty)(hx:x.Sm)(hi:Bb p x 1=true):Ab prog 44 [Cq p,Be x] (.d (.slice (Ay (Bo p x)))):=by
 obtain⟨I,E,_⟩:=N4 (by decide) hi;unfold Bo;rw[A6 hi,E,Dh];have J:=h.decls.2 I (Qb E);have a1:=J.fields.1;have hn:=Qh I.A1 J.A1.1;have L:=A7a p x.name;obtain⟨k,hk,W⟩:∃k:Nat,p.decls[k]?=some I/\findD x.name p.decls 0=(k:Int):=by rcases A8g x.name p.decls 0 with⟨_,Z⟩|⟨k,e,h1,Z,h3⟩;have:Fk p x.name=none:=Z;rw[E]at this;cases this;have:Fk p x.name=some e:=h3;rw[E]at this;obtain rfl:=An6 this;exact⟨k,h1,by rw[Z];simp⟩
 rw[W]at L;unfold fieldsD;refine cB func44 ?_;refine sR Wo ?_;refine sG Wo [] 9 gp λK z=>?_;refine ev ?_;refine cc L ?_;refine ci (Ek hk) ?_;apply z;clear z K;refine sR Wo ?_;refine A0.pp 6 5 6 rfl<|kR Wo λK1 u1=>?_;refine A0.bb (A0.ii I.fields (X:=Unit) (λj _=>[(3,.box 3 0),(5,.box 5 0),(6,.acc 6),(7,A7 j)]) (λj _=>[(3,.cells [.d (.str x.name),Co x.args,A7 x.pos]),(5,.cells ((B3 I).map .d)),(6,.rows 5 (Ay ((I.fields.take j).map (Param.subst (Ad I.A1) x.args))))]) (λj _=>True) () trivial sS (by simp[ble,A8,Ay,B3]) ?_ ?_)
 intro _ _;rw[Cx];refine Ae B6 Wo λV u2=>?_;refine A0.ss rfl ?_;simp only[A5,A9,Ac];refine u1 _ _<|sR Wo ?_;exact aR
 intro j _ d hd U dp tk a0 _;rw[tk];have O:=Q0 (Ad I.A1) x.args hx.arg d.type (J.fields.2 d U).type;refine Ae a0 Wo λV u2=>?_;refine gI u2 ?_;clear u2 V;refine sK λV u2=>A0.bb ?_;refine sV Wo λK z=>?_;refine ci (Dx hd) ?_;apply z;clear z K;refine sG Wo [] 7 [] λK z=>?_;refine ev ?_;refine cc hn ?_;refine cc O ?_;apply z;clear z K;(refine lV Wo λK z=>?_;refine⟨by simp,by simp only[Bc,D0];unfold lim sm at*;omega,?_⟩;(try refine ev ?_);apply z;clear z K;try simp only[A5,A9]);refine u2 _ _ ?_;clear u2 V;refine lT Wo ?_;exact⟨(),trivial,sS,by simp[ble,A8,Ay,B3,E9,Param.subst]⟩
end Go.Abs
