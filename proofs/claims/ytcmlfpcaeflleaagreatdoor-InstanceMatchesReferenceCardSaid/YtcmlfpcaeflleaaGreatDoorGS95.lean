/- the texts of types and expressions: types.Text, expr.Text; castingsref04.Text, castingsref05.Text -/
import Derived.Test.YtcmlfpcaeflleaaGreatDoorGV05
set_option linter.all false
set_option maxHeartbeats 1000000
set_option maxRecDepth 100000
namespace Go.Abs
open Go Go.Proofs
abbrev comma:A3:=[44,32]
mutual
def Ty.Av:Ty->A3
 |.mk n a _=>if a.isEmpty=true then n else n++[91]++Lib.join (Ty.Q8 a) comma++[93]
def Ty.Q8:List Ty->List A3
 |[]=>[]
 |t::ts=>t.Av::Ty.Q8 ts
end
mutual
def Ty.Cb:Ty->Nat
 |.mk n a _=>n.length+4+Ty.C4 a
def Ty.C4:List Ty->Nat
 |[]=>0
 |t::ts=>t.Cb+Ty.C4 ts
end
def Ty.A6k:∀l:List Ty,Ty.Q8 l=l.map Ty.Av
 |[]=>rfl
 |t::ts=>by rw[Ty.Q8,Ty.A6k ts,Ck]
def Ty.A6x(t:Ty):t.Av=if t.args=[]then t.name else t.name++[91]++Lib.join (t.args.map Ty.Av) comma++[93]:=by
 cases t with
 |mk n a p =>rw[Ty.Av,Ty.A6k];simp only[Av1];rfl
def Ty.Mw(t:Ty):t.Cb=t.name.length+4+Ty.C4 t.args:=by cases t;rfl
def Ph(l:List A3):Nat:=(l.map λs=>s.length+2).sum
def B7a:∀l:List A3,(Lib.join l comma).length<=Ph l
 |[]=>by simp[Lib.join_nil]
 |x::r=>by
  have:∀r:List A3,(Lib.joinTail comma r).length<=Ph r:=λr=>by
   induction r with
   |nil=>simp[Lib.joinTail]
   |cons y r E=>simp only[Lib.joinTail,Ph,Ck,As5,Bz,Mi,C6,Dy]at E |-;omega
  rw[Lib.join_cons,Bz];have:=this r;simp only[Ph,Ck,Mi]at this |-;omega
mutual
theorem Ty.M6:∀t:Ty,t.Av.length+2<=t.Cb
 |.mk n a p=>by
  have I:=Ty.A7n a;have E:=B7a (Ty.Q8 a);rw[Ty.Av,Ty.Cb];split
  .omega
  .simp only[Bz,C6,Dy];omega
theorem Ty.A7n:∀l:List Ty,Ph (Ty.Q8 l)<=Ty.C4 l
 |[]=>by simp[Ph,Ty.Q8]
 |t::ts=>by have I:=Ty.M6 t;have E:=Ty.A7n ts;simp only[Ph]at E;simp only[Ty.Q8,Ty.C4,Ph,Ck,Mi];omega
end
def A5u:∀{l:List Ty} {t:Ty},t∈l->t.Cb<=Ty.C4 l
 |[],_,h=>by simp at h
 |x::l,t,h=>by
  simp only[Ty.C4];rcases Aw.1 h with rfl|h
  .omega
  .have:=A5u h;omega
def B7f:∀l:List Ty,l.length<=Ty.C4 l
 |[]=>Bi _
 |x::l=>by have:=B7f l;have:=Ty.Mw x;simp only[Ty.C4,C6];omega
abbrev Tz:List Nat:=[0,1,2,3,5,9,13,14,15,16]
def D9d:∀t:Ty,t.Cb<=sm->Ac Tryz.prog 141 [B6 t] (D9 t.Av):=by
 intro t
 induction t using Ty.induct with
 |h t ih =>
 intro hl;have Z:=Ty.Mw t;have a0:=B7f t.args;have I:=Ty.M6 t;have a1:=B7a (t.args.map Ty.Av);have M:=Ty.A7n t.args;rw[Ty.A6k]at M;rw[Ty.A6x]at I |-;by_cases L:t.args=[]
 .rw[A9 L];have hz:((t.args.length:Nat):Int)=0:=by rw[L];rfl
  refine cB Tryz.func141 ?_;refine sR Tz ?_;refine Ai hz Tz λO u1=>?_;refine tI ?_;refine sR Tz ?_;exact aR
 have hz:¬((t.args.length:Nat):Int)=0:=by have:t.args.length≠0:=λh=>L (Pa h);omega
 rw[A6 L]at I |-;simp only[Bz,C6,Dy]at I;have V:=F8c (t.args.map Ty.Av) comma (by rw[Bn];omega) (by unfold lim sm at*;omega);generalize hJ:Lib.join (t.args.map Ty.Av) comma=J at*;refine cB Tryz.func141 ?_;refine sR Tz ?_;refine Ai hz Tz λO u1=>?_;refine kI u1 ?_;clear u1 O;refine sR Tz ?_;refine A0.pp 3 1 3 rfl<|kR Tz λO u1=>?_;refine A0.bb (A0.ii t.args (X:=Unit) (λj _=>[(1,.box 1 0),(3,.acc 3),(13,.d (.slice (Au t.args))),(14,A8 t.args.length),(15,A8 j)]) (λj _=>[(1,.cells [.d (.str t.name),.d (.slice (Au t.args)),.d (.int .i64 t.pos)]),(3,.rows 1 (C5 ((t.args.take j).map Ty.Av)))])
  (λj _=>True) () trivial sS (by simp[ble,A7,C5]) ?_ ?_)
 rotate_left
 .intro j _ u hu E dp tk U _;have hi:=ih u E (by have:=A5u E;omega);rw[tk];refine Aq U Tz ?_;refine A0.Fk rfl<|sK λW u2=>A0.bb ?_
  (refine sV Tz λK z=>?_;refine ci (Dv hu) ?_;apply z;clear z K)
  (refine lV Tz λK z=>?_;refine cc hi ?_;refine⟨by simp,by simp only[Bn,Dx];unfold lim sm at*;omega,?_⟩;(try refine ev ?_);apply z;clear z K;try simp only[A4,Ab])
  refine u2 _ _ ?_;clear u2 W;refine lT Tz ?_;exact⟨(),trivial,sS,by simp[ble,A7,C5]⟩
 intro _ _;rw[Dm];refine Aq B3 Tz ?_;refine A0.stop rfl ?_;simp only[A4,Ab,Ae];refine u1 _ _ ?_
 (refine sG Tz [] 5 [] λK z=>?_;refine ev ?_;refine⟨(by(try simp only[Bz,C6,Dy]);unfold lim sm at*;omega),?_⟩;(try refine ev ?_);refine⟨_,.inr ⟨_,rfl,V,rfl⟩,?_⟩;(try refine ev ?_);refine⟨(by(try simp only[Bz,C6,Dy]);unfold lim sm at*;omega),?_⟩;(try refine ev ?_);refine⟨(by(try simp only[Bz,C6,Dy]);unfold lim sm at*;omega),?_⟩;(try refine ev ?_);apply z;clear z K)
 exact aR
def Ty.pre(t:Ty)(j:Nat):A3:=if j=0 then t.name else t.name++[91]++Lib.join ((t.args.take j).map Ty.Av) comma
def C9r(l:List Ty):A3:=if l=[]then[]else[91]++Lib.join (l.map Ty.Av) comma++[93]
def C0b(k:Int)(n:A3)(t:Ty)(a:List Ty)(ks:List A3):A3 :=
 if k=2 then ks.headD []++[46]++n++C9r a++[40]++Lib.join (ks.drop 1) comma++[41]
 else if k=3 then t.Av++[123]++Lib.join ks comma++[125]
 else if k=4 then ks.headD []++[46]++n
 else if k=5 then ks.headD []++[46,40]++t.Av++[41]
 else n
mutual
def Ex.Av:Ex->A3
 |.mk k n t a ks _=>C0b k n t a (Ex.Q8 ks)
def Ex.Q8:List Ex->List A3
 |[]=>[]
 |e::es=>e.Av::Ex.Q8 es
end
mutual
def Ex.A0c:Ex->Nat
 |.mk _ n t a ks _=>n.length+10+t.Cb+Ty.C4 a+Ex.Te ks
def Ex.Te:List Ex->Nat
 |[]=>0
 |e::es=>e.A0c+Ex.Te es
end
def Ex.A6k:∀l:List Ex,Ex.Q8 l=l.map Ex.Av
 |[]=>rfl
 |t::ts=>by rw[Ex.Q8,Ex.A6k ts,Ck]
def Ex.A6x(e:Ex):e.Av=C0b e.kind e.name e.type e.targs (e.kids.map Ex.Av):=by cases e with|mk k n t a ks q=>rw[Ex.Av,Ex.A6k];rfl
def Ex.E5h(e:Ex):e.A0c=e.name.length+10+e.type.Cb+Ty.C4 e.targs+Ex.Te e.kids:=by cases e;rfl
def F7u(l:List Ty):(C9r l).length<=Ty.C4 l+2:=by
 have I:=B7a (l.map Ty.Av);have E:=Ty.A7n l;rw[Ty.A6k]at E;unfold C9r;split
 .simp
 .simp only[Bz,C6,Dy];omega
def E3g(x:A3)(l:List A3):Ph (x::l)=x.length+2+Ph l:=by simp[Ph]
def F2q(k:Int)(n:A3)(t:Ty)(a:List Ty)(ks:List A3):(C0b k n t a ks).length+2<=n.length+10+t.Cb+Ty.C4 a+Ph ks:=by
 have I:=Ty.M6 t;have L:=F7u a;have J:=B7a ks;have E:=B7a (ks.drop 1);have M:(ks.headD []).length+Ph (ks.drop 1)<=Ph ks:=by
  cases ks with
  |nil=>simp[Ph]
  |cons x r=>simp only[List.headD_cons,Ap0,Ao7,E3g];omega
 unfold C0b;split
 .simp only[Bz,C6,Dy];omega
 .split
  .simp only[Bz,C6,Dy];omega
  .split
   .simp only[Bz,C6,Dy];omega
   .split
    .simp only[Bz,C6,Dy];omega
    .omega
mutual
theorem Ex.M6:∀e:Ex,e.Av.length+2<=e.A0c
 |.mk k n t a ks q=>by have I:=Ex.A7n ks;have E:=F2q k n t a (Ex.Q8 ks);rw[Ex.Av,Ex.A0c];omega
theorem Ex.A7n:∀l:List Ex,Ph (Ex.Q8 l)<=Ex.Te l
 |[]=>by simp[Ph,Ex.Q8]
 |t::ts=>by have I:=Ex.M6 t;have E:=Ex.A7n ts;rw[Ex.Q8,Ex.Te,E3g];omega
end
def D9j:∀{l:List Ex} {t:Ex},t∈l->t.A0c<=Ex.Te l
 |[],_,h=>by simp at h
 |x::l,t,h=>by
  simp only[Ex.Te];rcases Aw.1 h with rfl|h
  .omega
  .have:=D9j h;omega
inductive Ex.H0:Ex->Prop where
 |mk (k:Int) (n:A3) (t:Ty) (a:List Ty) (ks:List Ex) (q:Int):(k=1\/k=2\/k=3\/k=4\/k=5)->(k=2\/k=4\/k=5->ks≠[])->(k=5->n=[])->(∀e,e∈ks->Ex.H0 e)->Ex.H0 (.mk k n t a ks q)
def Ex.H0.kids{e:Ex}(h:e.H0):∀x,x∈e.kids->x.H0:=by cases h;assumption
def Ex.H0.some{e:Ex}(h:e.H0)(I:e.kind=2\/e.kind=4\/e.kind=5):∃v,e.kids[0]?=some v:=by
 cases h with
 |mk k n t a ks q _ E _ _ =>
  have:=E I;cases ks with
  |nil=>exact absurd rfl this
  |cons v _=>exact⟨v,rfl⟩
def Ex.H0.kind{e:Ex}(h:e.H0):e.kind=1\/e.kind=2\/e.kind=3\/e.kind=4\/e.kind=5:=by cases h;assumption
def Ex.H0.name{e:Ex}(h:e.H0):e.kind=5->e.name=[]:=by cases h;assumption
structure H1z(n:A3):Prop where
 len:n.length<=sm
 noD:Lib.hasPrefix n [36]=false
 noN:G4e n=true
 noU:Lib.countByte n 95=0
def B4a(v:List A3)(a:List Ty)(e:Ex):e.subst v a=.mk e.kind e.name (e.type.subst v a) (e.targs.map (Ty.subst v a)) (e.kids.map (Ex.subst v a)) e.pos:=by unfold Ex.subst;rw[A5f];cases e;rfl
def F9k(names:List A3)(E:List Ex)(e:Ex):e.Ri names E=B5r names E (e.V0 (e.kids.map (Ex.Ri names E))):=by unfold Ex.Ri;rw[A5f]
def Ex.H0.of{e:Ex}(J:e.kind=1\/e.kind=2\/e.kind=3\/e.kind=4\/e.kind=5)(E:e.kind=2\/e.kind=4\/e.kind=5->e.kids≠[])(L:e.kind=5->e.name=[])(I:∀x,x∈e.kids->x.H0):e.H0:=by cases e with|mk k n t a ks q=>exact .mk k n t a ks q J E L I
def Ex.H0.E1o{e:Ex}(h:e.H0):e.kind=2\/e.kind=4\/e.kind=5->e.kids≠[]:=λJ I=>by obtain⟨v,E⟩:=h.some J;rw[I]at E;cases E
def Ex.H0.subst(v:List A3)(a:List Ty):∀{e:Ex},e.H0->(e.subst v a).H0:=by
 intro e
 induction e using Ex.induct with|_ e L=>?_
 intro h;rw[B4a];refine .mk _ _ _ _ _ _ h.kind (λJ I=>h.E1o J (Ar7.1 I)) h.name λx M=>?_;obtain⟨y,E,rfl⟩:=B1.1 M;exact L y E (h.kids y E)
def Ex.H0.Ri{names:List A3}{E:List Ex}(U:∀x,x∈E->x.H0):∀{e:Ex},e.H0->(e.Ri names E).H0:=by
 intro e
 induction e using Ex.induct with|_ e O=>?_
 intro h;rw[F9k];have I:(e.V0 (e.kids.map (Ex.Ri names E))).H0:=.mk _ _ _ _ _ _ h.kind (λI L=>h.E1o I (Ar7.1 L)) h.name λx V=>by obtain⟨y,J,rfl⟩:=B1.1 V;exact O y J (h.kids y J)
 unfold B5r;split
 .cases M:E[(Dc (e.V0 (e.kids.map (Ex.Ri names E))).name names 0).toNat]? with
  |none=>exact I
  |some u=>exact U u (Br M)
 .exact I
mutual
theorem Ty.A2x:∀(t:Ty)(k:Int),t.count k<=2000->(t.Cb:Int)<=60*(t.count k - k)
 |.mk n a p,k,h=>by simp only[Ty.count]at h |-;have E:=Ty.C3z a (k+1+((n.length / 50:Nat):Int)) h;rw[Ty.Cb];omega
theorem Ty.C3z:∀(l:List Ty)(k:Int),Ty.Cj l k<=2000->(Ty.C4 l:Int)<=60*(Ty.Cj l k - k)
 |[],k,_=>by simp[Ty.Cj,Ty.C4]
 |t::ts,k,h=>by
  simp only[Ty.Cj]at h |-;split at h
  .rename_i I;rw[A9 I];have J:=Ty.L3 ts (t.count k);have E:=Ty.C3z ts (t.count k) h;have L:=Ty.A2x t k (by omega);rw[Ty.C4];omega
  .omega
end
mutual
theorem Ex.D4j:∀(e:Ex)(k:Int),e.count k<=2000->(e.A0c:Int)<=120*(e.count k - k)
 |.mk U n t a ks p,k,h=>by simp only[Ex.count]at h |-;have E:=Ty.F9 t (k+((n.length / 50:Nat):Int));have L:=Ty.L3 a (t.count (k+((n.length / 50:Nat):Int)));have I:=Ex.L3 ks (Ty.Cj a (t.count (k+((n.length / 50:Nat):Int))));have O:=Ty.A2x t (k+((n.length / 50:Nat):Int)) (by omega);have M:=Ty.C3z a (t.count (k+((n.length / 50:Nat):Int))) (by omega);have V:=Ex.E3x ks (Ty.Cj a (t.count (k+((n.length / 50:Nat):Int)))) h;rw[Ex.A0c];omega
theorem Ex.E3x:∀(l:List Ex)(k:Int),Ex.Cj l k<=2000->(Ex.Te l:Int)<=120*(Ex.Cj l k - k)
 |[],k,_=>by simp[Ex.Cj,Ex.Te]
 |t::ts,k,h=>by
  simp only[Ex.Cj]at h |-;split at h
  .rename_i J;rw[A9 J];have E:=Ex.L3 ts (t.count k);have L:=Ex.E3x ts (t.count k) h;have I:=Ex.D4j t k (by omega);rw[Ex.Te];omega
  .omega
end
end Go.Abs
