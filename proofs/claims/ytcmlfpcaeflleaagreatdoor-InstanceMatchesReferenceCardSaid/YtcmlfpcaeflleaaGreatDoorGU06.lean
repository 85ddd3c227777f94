/- the types of a program, as castingsref06 lists them; what has no type parameters -/
import Derived.Test.YtcmlfpcaeflleaaGreatDoorGS58
import Derived.Test.YtcmlfpcaeflleaaGreatDoorGO01
set_option linter.all false
set_option maxHeartbeats 4000000
set_option maxRecDepth 100000
namespace Go.Abs
open Go
def A8f(x:Ex):List Ty:=x.targs++if x.kind=3\/x.kind=5 then[x.type]else[]
def Pd(l:List Ex):List Ty:=l.flatMap A8f
def A2g(e:Ex):List Ty:=Pd (Bg e)
def Lb(l:List Am):List Ty:=l.map (·.bound)
def Np(l:List Param):List Ty:=l.map (·.type)
def A0d(s:A5):List Ty:=Lb s.A1++Np s.params++[s.result]
def W0(l:List A5):List Ty:=l.flatMap A0d
def A5y(d:Decl):List Ty:=if d.kind=3 then A0d d.sig++A2g d.body else[]
def B3c(d:Decl):List Ty:=Lb d.A1++Np d.fields++W0 d.sigs++A5y d
def Yt(l:List Decl):List Ty:=l.flatMap B3c
def A9x(p:Prog):List Ty:=Yt p.decls++A2g p.main
def A3b(e:Ex):Bool:=(Bg e).all λx=>decide (x.targs.length=0)
def A3d(l:List A5):Bool:=l.all λs=>decide (s.A1.length=0)
def A0i(d:Decl):Bool:=decide (d.A1.length+d.vars.length+d.sig.A1.length=0) && (A3b d.body && A3d d.sigs)
def A5o(l:List Ty):Bool:=l.all λt=>decide (t.args.length=0)
def A8v(p:Prog):Bool:=A5o (A9x p) && (p.decls.all A0i && A3b p.main)
def ExQ(Q:Ty->Prop)(e:Ex):Prop:=(e.kind=3\/e.kind=5->Q e.type)/\∀t,t∈e.targs->Q t
structure D6e(Q:Ty->Prop)(s:A5):Prop where
 A1:∀f,f∈s.A1->Q f.bound
 params:∀f,f∈s.params->Q f.type
 result:Q s.result
structure H2d(Q:Ty->Prop)(d:Decl):Prop where
 A1:∀f,f∈d.A1->Q f.bound
 fields:∀f,f∈d.fields->Q f.type
 sigs:∀s,s∈d.sigs->D6e Q s
 sig:d.kind=3->D6e Q d.sig
 body:d.kind=3->∀x,x∈Bg d.body->ExQ Q x
open Go Go.Proofs Tryz
def Li(g:Ex->Bool)(l:List Ex):Bool:=l.all g
def B0z(g:Ex->Bool)(l m:List Ex):Li g (l++m)=(Li g l && Li g m):=by simp[Li]
def D6u(e:Ex):D4 [e]=Bg e:=by rw[D4,D4,I8]
def Kn(g:Ex->Bool)(j:Nat)(l:List Ex):Option Nat:=if Li g l=true then some (j+l.length)else none
structure Rt(g:Ex->Bool)(Y:Iw)(j:Nat)(l:List Ex):Prop where
 P:Y.P=Tryz.prog
 N:j+l.length<=Y.N
 at_:∀i e,l[i]?=some e->Y.xs (j+i)=D0 e/\Y.go (j+i)=g e
theorem Rt.left{g:Ex->Bool}{Y:Iw}{j:Nat}{l m:List Ex}(h:Rt g Y j (l++m)):Rt g Y j l where
 P:=h.P
 N:=by have:=h.N;rw[Bz]at this;omega
 at_:=λi e E=>h.at_ i e (by rw[Ls (B5.1 E).1];exact E)
def Rt.right{g:Ex->Bool}{Y:Iw}{j:Nat}{l m:List Ex}(h:Rt g Y j (l++m)):Rt g Y (j+l.length) m where
 P:=h.P
 N:=by have:=h.N;rw[Bz]at this;omega
 at_:=λi e E=>by have:=h.at_ (l.length+i) e (by rw[M5 (by omega)];simpa using E);rw[Wr];exact this
abbrev Z0:List Nat:=[0,1,4,5,7,8,9,16,1000000]
def G6w(g:Ex->Bool)(f:FuncId)(caps:List SV)(U:∀x:Ex,G8 [] (D0 x::caps)=some (D0 x::caps))(Y:Iw)(l:List Ex)(hl:l.length<=lim)(O:Nat)(I:Rt g Y O (D4 l))
  (hc:∀e,e∈l->∀j,Rt g Y j (Bg e)->Bj Tryz.prog f (D0 e::caps) [(1000000,.ghost Y (some j))] (Ay (!Li g (Bg e))) [(1000000,.ghost Y (Kn g j (Bg e)))]) :
  Bj Tryz.prog 241 [.d (.slice (Ew l)),.B0 f caps] [(1000000,.ghost Y (some O))] (A8 (Dq (λe=>!Li g (Bg e)) l)) [(1000000,.ghost Y (Kn g O (D4 l)))]:=by
 refine bB func241 ?_;refine sR Z0 ?_;refine kR Z0 λK1 u1=>?_;refine A0.bb (A0.ii l (X:=Unit) (λj _=>[(0,.d (.slice (Ew l))),(1,.B0 f caps),(7,A8 l.length),(8,A8 j)]) (λj _=>[(1000000,.ghost Y (some (O+(D4 (l.take j)).length)))])
  (λj _=>Li g (D4 (l.take j))=true/\∀y,y∈l.take j->(!Li g (Bg y))=false) () (by simp[D4,Li]) sS (by simp[ble,A7,D4]) ?_ ?_)
 .intro _ J;rw[Dm]at J |-;refine Aq B3 Z0 ?_;refine A0.stop rfl ?_;simp only[A4,Ab,Ae];refine u1 _ _<|sR Z0 ?_;rw[Tn J.2];unfold Kn;rw[A9 J.1];exact A0.ret ⟨_,by rw[results241];rfl,.inr rfl,by simp[ble,A7]⟩
 .intro j _ d W V dp tk Z J;have a0:Rt g Y (O+(D4 (l.take j)).length) (Bg d):=by
   have L:l=l.take j++(d::l.drop (j+1)):=by rw[<-dp,Ak4]
   rw[L,A0v,D4]at I;exact I.right.left
  have E:=hc d V _ a0;refine Aq Z Z0 ?_;refine A0.Fk rfl<|sK λK2 u2=>A0.bb<|sR Z0 ?_;cases M:Li g (Bg d)with
  |true =>
   unfold Kn at E;rw[M,A9 rfl]at E
   (refine A0.Ef Z0 [700016] (by decide +kernel) λK z=>?_;refine ev ?_;refine ci (Dn W) ?_;refine⟨_,_,_,U d,E,rfl,?_⟩;(try refine ev ?_);apply z;clear z K)
   refine A0.ff rfl (A0.kk (u2 _ _ ?_));clear u2 K2
   (refine lV Z0 λK z=>?_;refine⟨by first| (unfold Az;omega)| (simp only[Az,lim]at*;omega),?_⟩;(try refine ev ?_);apply z;clear z K;try simp only[A4,])
   refine⟨(),?_,sS,?_⟩
   .rw[tk,A0v,B0z,J.1,D6u,M];refine⟨rfl,λy hy=>?_⟩;rcases D2.1 hy with hy|hy
    .exact J.2 y hy
    .rw[Ps.1 hy,M];rfl
   .rw[tk,A0v,D6u,Bz,<-Wr];simp[ble,A7]
  |false =>
   unfold Kn at E;rw[M,A6 (by decide)]at E
   (refine A0.Ef Z0 [700016] (by decide +kernel) λK z=>?_;refine ev ?_;refine ci (Dn W) ?_;refine⟨_,_,_,U d,E,rfl,?_⟩;(try refine ev ?_);apply z;clear z K)
   refine A0.tt rfl<|sR Z0 ?_;rw[Tt W (by rw[M];rfl) J.2];have L:l=l.take j++(d::l.drop (j+1)):=by rw[<-dp,Ak4]
   have a1:Kn g O (D4 l)=none:=by unfold Kn;rw[A6];rw[L,A0v,D4,B0z,B0z,M];simp
   rw[a1];exact A0.ret ⟨_,by rw[results241];rfl,.inr rfl,by simp[ble,A7]⟩
def E9q(g:Ex->Bool)(l:List Ex):decide (Dq (λe=>!Li g (Bg e)) l >= 0) = !Li g (D4 l):=by
 have I:∀l:List Ex,(∀x,x∈l->Li g (Bg x)=true)->Li g (D4 l)=true:=by
  intro l
  induction l with
  |nil=>intro _;simp[D4,Li]
  |cons e l O =>intro h;rw[D4,B0z,h e (by simp),O λx U=>h x (by simp[U])];rfl
 unfold Dq;cases h:l.findIdx? (λe=>!Li g (Bg e))with
 |none =>
  have L:∀x,x∈l->Li g (Bg x)=true:=by simpa [Ao2]using h
  rw[I l L];rfl
 |some j =>
  obtain⟨V,M,_⟩:=Ai3.1 h;have E:l=l.take j++(l[j]::l.drop (j+1)):=by rw[List.getElem_cons_drop,Ak4]
  have J:Li g (Bg l[j])=false:=by simpa using M
  rw[E,A0v,D4,B0z,B0z,J];simp
def H0m(g:Ex->Bool)(f:FuncId)(caps:List SV)(L:G8 [] caps=some caps)(J:∀x:Ex,G8 [] (D0 x::caps)=some (D0 x::caps))(Y:Iw)(l:List Ex)(M:l.length<=lim)(I:Nat)(E:Rt g Y I (D4 l))
  (O:∀e,e∈l->∀j,Rt g Y j (Bg e)->Bj Tryz.prog f (D0 e::caps) [(1000000,.ghost Y (some j))] (Ay (!Li g (Bg e))) [(1000000,.ghost Y (Kn g j (Bg e)))]) :
  Bj Tryz.prog 203 [.d (.slice (Ew l)),.B0 f caps] [(1000000,.ghost Y (some I))] (Ay (!Li g (D4 l))) [(1000000,.ghost Y (Kn g I (D4 l)))]:=by
 have h:=G6w g f caps J Y l M I E O;rw[<-E9q g];generalize Dq (λe=>!Li g (Bg e)) l=k at*;generalize Kn g I (D4 l)=st at*;refine bB func203 ?_;refine sR [0,1,4,1000000] ?_
 (refine A0.Ef [0,1,4,1000000] [700007] (by decide +kernel) λK z=>?_;refine ev ?_;refine⟨_,_,_,(by rw[L]),h,rfl,?_⟩;(try refine ev ?_);apply z;clear z K)
 exact A0.ret ⟨_,by rw[results203];rfl,.inr rfl,by simp[ble,A7]⟩
abbrev A6f:List Nat:=[0,1,2,3,4,5,9,1000000]
def G7e(g:Ex->Bool)(Y:Iw):∀(e:Ex)(j:Nat),Rt g Y j (Bg e)->Bj Tryz.prog 140 [D0 e,.Ek Y.l] [(1000000,.ghost Y (some j))] (Ay (Li g (Bg e))) [(1000000,.ghost Y (Kn g j (Bg e)))]:=by
 intro e
 induction e using Ex.induct with
 |h e ih =>
 intro j J;refine Bj.bd (Enters.of func140 rfl (by decide)) λZ=>?_;have V:=(C6e Z.1).kids.1;have hP:=J.P;have U:=J.at_ 0 e (by rw[A1w];rfl);have hN:j<Y.N:=by have:=J.N;rw[A1w,C6]at this;omega
 rw[Sx]at U;have W:∀k,k∈e.kids->∀i,Rt g Y i (Bg k)->Bj Tryz.prog 202 [D0 k,.Fs [.Ek Y.l] 0] [(1000000,.ghost Y (some i))] (Ay (!Li g (Bg k))) [(1000000,.ghost Y (Kn g i (Bg k)))]:=by
  intro k O i hi;have:=ih k O i hi;generalize Li g (Bg k)=bb at*;generalize Kn g i (Bg k)=st at*;refine bB func202 ?_;refine sR [0,1,2,3,1000000] ?_
  (refine A0.Ef [0,1,2,3,1000000] [700006] (by decide +kernel) λK z=>?_;refine ev ?_;refine⟨_,_,_,rfl,this,rfl,?_⟩;(try refine ev ?_);apply z;clear z K)
  exact A0.ret ⟨_,by rw[results202];rfl,.inr rfl,by simp[ble,A7]⟩
 by_cases O:g e=true
 .have a0:Rt g Y (j+1) (D4 e.kids):=by
   have:=J;rw[A1w,show e::D4 e.kids=[e]++D4 e.kids from rfl]at this;exact this.right
  have a1:=H0m g 202 [.Fs [.Ek Y.l] 0] rfl (λ_=>rfl) Y e.kids V (j+1) a0 W;have E:Li g (Bg e)=Li g (D4 e.kids):=by rw[A1w];simp[Li,O]
  have M:Kn g j (Bg e)=Kn g (j+1) (D4 e.kids):=by
   unfold Kn;rw[E,A1w,C6];split
   .congr 1;omega
   .rfl
  rw[E,M];have I:Y.go j=true:=by rw[U.2,O]
  have L:Y.next j=some (j+1):=by unfold Iw.next;rw[A9 I]
  generalize Li g (D4 e.kids)=bb at*;generalize Kn g (j+1) (D4 e.kids)=st at*;refine bB func140 ?_;refine sR A6f<|sK λK1 u1=>?_
  (refine A0.Ef A6f [700008] (by decide +kernel) λK z=>?_;refine Gv I L ?_;refine⟨_,rfl,hP,hN,U.1,?_⟩;(try refine Gv I L ?_);apply z;clear z K)
  refine kI u1 ?_;clear u1 K1;refine A0.F3w 3 rfl rfl (wk [(0,D0 e),(1,.Ek Y.l),(2,.box 2 0),(3,.Fs [.Ek Y.l] 0),(4,.d (.bool false))] [(2,.cells (exS e)),(1000000,.ghost Y (some (j+1)))] ?_);refine sR A6f ?_
  (refine A0.Ef A6f [700014] (by decide +kernel) λK z=>?_;refine ev ?_;refine⟨_,_,_,rfl,a1,rfl,?_⟩;(try simp -implicitDefEqProofs only[EV,Nat.reduceEqDiff,reduceCtorEq,Bool.not_not]);apply z;clear z K)
  exact A0.ret ⟨_,by rw[results140];rfl,.inr rfl,by simp[ble,A7]⟩
 .have I:Y.go j=false:=by rw[U.2];simpa using O
  have L:Y.next j=none:=by unfold Iw.next;rw[A6 (by rw[I];decide)]
  have E:Li g (Bg e)=false:=by rw[A1w];simp[Li,O]
  have M:Kn g j (Bg e)=none:=by unfold Kn;rw[E];rfl
  rw[E,M];refine bB func140 ?_;refine sR A6f<|sK λK1 u1=>?_
  (refine A0.Ef A6f [700008] (by decide +kernel) λK z=>?_;refine Gv I L ?_;refine⟨_,rfl,hP,hN,U.1,?_⟩;(try refine Gv I L ?_);apply z;clear z K)
  refine tI ?_;refine sR A6f ?_;exact A0.ret ⟨_,by rw[results140];rfl,.inr rfl,by simp[ble,A7]⟩
def F8v(e:Ex):Bj Tryz.prog 79 [D0 e] [] (.B0 139 [.Ah (Bu e) 0]) []:=by refine bB func79 ?_;refine sR [0,1,2] ?_;refine A0.zz 1 rfl rfl<|sR [0,1,2] ?_;exact A0.ret ⟨_,by rw[results79];rfl,.inr rfl,by simp[ble]⟩
def F9f(g:Ex->Bool)(e:Ex)(Y:Iw)(E:Rt g Y 0 (Bg e)):Bj Tryz.prog 139 [.Ek Y.l,.Ah (Bu e) 0] [(1000000,.ghost Y (some 0))] (.tuple []) [(1000000,.ghost Y (Kn g 0 (Bg e)))]:=by
 have I:=G7e g Y e 0 E;refine bB func139 ?_
 (refine A0.Qs [0,1,1000000] [700005] (by decide +kernel) λK z=>?_;refine ev ?_;refine⟨_,_,_,rfl,I,rfl,?_⟩;(try refine ev ?_);apply z;clear z K;try simp only[A4,Ab,Ae])
 exact⟨_,by rw[results139];rfl,.inr rfl,by simp[ble,A7]⟩
def Ty.E6u:∀(l:List Ty)(k:Int),Ty.Cj l k<=2000->k+(l.length:Int)<=Ty.Cj l k
 |[],k,_=>by simp[Ty.Cj]
 |t::ts,k,h=>by
  simp only[Ty.Cj]at h |-;split at h
  .rename_i E;rw[A9 E];have J:=Ty.E6u ts _ h;have I:=Ty.F9 t k;simp only[C6];omega
  .omega
def G3j(e:Ex)(l:List Ex):Pd (e::l)=A8f e++Pd l:=rfl
def C1j(a b:List Ex):Pd (a++b)=Pd a++Pd b:=by simp[Pd]
def G5g(x:Ex):(A8f x).length<=x.targs.length+1:=by unfold A8f;rw[Bz];split <;> simp
mutual
theorem Ex.E6v:∀(e:Ex)(k:Int),e.count k<=2000->k+((Bg e).length:Int)<=e.count k/\k+((A2g e).length:Int)<=e.count k
 |.mk E n t a ks p,k,h=>by simp only[Ex.count]at h |-;have I:=Ty.F9 t (k+((n.length / 50:Nat):Int));have M:=Ty.L3 a (t.count (k+((n.length / 50:Nat):Int)));have J:=Ex.L3 ks (Ty.Cj a (t.count (k+((n.length / 50:Nat):Int))));have V:=Ty.E6u a (t.count (k+((n.length / 50:Nat):Int))) (by omega);obtain⟨Z,g4⟩:=Ex.D8v ks (Ty.Cj a (t.count (k+((n.length / 50:Nat):Int)))) h;have O:=G5g (.mk E n t a ks p);rw[show(Ex.mk E n t a ks p).targs=a from rfl]at O;unfold A2g;rw[Bg,G3j];simp only[C6,Bz];omega
theorem Ex.D8v:∀(l:List Ex)(k:Int),Ex.Cj l k<=2000->k+((D4 l).length:Int)<=Ex.Cj l k/\k+((Pd (D4 l)).length:Int)<=Ex.Cj l k
 |[],k,_=>by simp[Ex.Cj,D4,Pd]
 |t::ts,k,h=>by
  simp only[Ex.Cj]at h |-;split at h
  .rename_i L;rw[A9 L];have I:=Ex.L3 ts (t.count k);obtain⟨M,J⟩:=Ex.D8v ts (t.count k) h;obtain⟨W,U⟩:=Ex.E6v t k (by omega);unfold A2g at U;rw[D4,C1j];simp only[Bz];omega
  .omega
end
structure Ex.Le(e:Ex):Prop where
 list:(Bg e).length<=2000
 Cq:(A2g e).length<=2000
def Ex.Sk(e:Ex)(k:Int)(E:0<=k)(h:e.count k<=2000):e.Le:=by have:=Ex.E6v e k h;exact⟨by omega,by omega⟩
structure A5.Le(s:A5):Prop where
 A1:s.A1.length<=2000
 params:s.params.length<=2000
structure Decl.Le(d:Decl):Prop where
 A1:d.A1.length<=2000
 fields:d.fields.length<=2000
 B6b:d.sigs.length<=3000
 sigs:∀s,s∈d.sigs->s.Le
 sig:d.sig.Le
 body:d.body.Le
structure Prog.Le(p:Prog):Prop where
 B4e:p.decls.length<=200000
 decls:∀d,d∈p.decls->d.Le
 main:p.main.Le
def A5.Sk(s:A5)(n:Int)(J:0<=n)(h:s.count n<=2000):s.Le:=by unfold A5.count at h;obtain⟨V,E⟩:=A6r s.A1 (n+((s.name.length / 50:Nat):Int));obtain⟨U,I⟩:=A7p s.params (C8 s.A1 (n+((s.name.length / 50:Nat):Int)));have O:=Ty.F9 s.result (D6 s.params (C8 s.A1 (n+((s.name.length / 50:Nat):Int))));have L:=(E (by omega) (by omega)).1;have M:=(I (by omega) (by omega)).1;exact⟨by omega,by omega⟩
def G7t:P2 Ec A5.Le:=N8 Ec A5.count A5.Le (λ_=>rfl) (λ_ _ _=>rfl) (λx k=>(A5.Gi x k).1) (λx k E h=>A5.Sk x k E h)
def Decl.Sk(d:Decl)(n:Int)(L:0<=n)(h:d.count n<=2000):d.Le:=by
 unfold Decl.count at h;generalize M:n+1+((d.name.length / 50:Nat):Int)+((d.recv.length / 50:Nat):Int)=m at h;obtain⟨a1,I⟩:=A6r d.A1 m;obtain⟨b1,J⟩:=A7p d.fields (C8 d.A1 m);obtain⟨W,E⟩:=G7t d.sigs (D6 d.fields (C8 d.A1 m));obtain⟨e1,Z⟩:=A2e d.vars (Ec d.sigs (D6 d.fields (C8 d.A1 m)));generalize hz:Jc d.vars (Ec d.sigs (D6 d.fields (C8 d.A1 m)))=z at*;unfold Decl.Ta at h;obtain⟨f1,_⟩:=A5.Gi d.sig z;have O:=Ex.F9 d.body (d.sig.count z);split at h
 .have U:=(I (by omega) (by omega)).1;have V:=(J (by omega) (by omega)).1;have c3:=(E (by omega) (by omega)).1;exact⟨by omega,by omega,by omega,(E (by omega) (by omega)).2,A5.Sk d.sig z (by omega) (by omega),Ex.Sk d.body (d.sig.count z) (by omega) h⟩
 .omega
def F2z:P2 Im Decl.Le:=N8 Im Decl.count Decl.Le (λ_=>rfl) (λ_ _ _=>rfl) (λx k=>(Decl.Gi x k).1) (λx k E h=>Decl.Sk x k E h)
def Prog.Sk(p:Prog)(h:p.count<=600):p.Le:=by unfold Prog.count at h;have I:=Ex.F9 p.main 0;obtain⟨J,E⟩:=F2z p.decls (p.main.count 0);have:=(E (by omega) (by omega)).1;exact⟨by omega,(E (by omega) (by omega)).2,Ex.Sk p.main 0 (by omega) (by omega)⟩
def E7(s:Aj):Nat:=s.types.length+s.calls.length
def Sq(s:Aj):Bool:=s.types.any (λt=>decide (60<t.count 0)) ||(s.calls.any (λc=>decide (60<(Ty.mk [] c.targs 0).count 0)) ||(s.Cv ||decide (60<E7 s)))
def C7j{α:Type}{cmp:α->α->Int}{x:α}:∀{l:List α} {done:Bool} {out R:List α},G3 cmp x l done out=some R->R.length<=out.length+l.length+(if done=true then 0 else 1)/\∀t,t∈R->t=x\/t∈l\/t∈out
 |[],done,out,R,h=>by
  rw[G3]at h;cases h;cases done
  .simp;intro t ht;rcases ht with h|h <;> simp[h]
  .simp;intro t ht;simp[ht]
 |t::l,done,out,R,h=>by
  rw[G3]at h;split at h
  .cases h
  split at h
  .obtain⟨J,E⟩:=C7j h;refine⟨by clear E;cases done <;> simp_all <;> omega,λu I=>?_⟩;rcases E u I with h3|h3|h3
   .exact .inl h3
   .exact .inr (.inl (by simp[h3]))
   .simp only[D2,Aw,Ej,Eh]at h3;rcases h3 with h3|h3|h3
    .exact .inr (.inr h3)
    .exact .inl h3
    .exact .inr (.inl (by simp[h3]))
  .obtain⟨J,E⟩:=C7j h;refine⟨by clear E;cases done <;> simp_all <;> omega,λu I=>?_⟩;rcases E u I with h3|h3|h3
   .exact .inl h3
   .exact .inr (.inl (by simp[h3]))
   .simp only[D2,Aw,Ej,Eh]at h3;rcases h3 with h3|h3
    .exact .inr (.inr h3)
    .exact .inr (.inl (by simp[h3]))
def Zh{α:Type}{cmp:α->α->Int}{x:α}(l:List α):(J8 cmp l x).length<=l.length+1/\∀t,t∈J8 cmp l x->t=x\/t∈l:=by
 unfold J8;cases h:G3 cmp x l false []with
 |none=>exact⟨by simp,λt ht=>.inr ht⟩
 |some R =>
  obtain⟨I,E⟩:=C7j h;refine⟨by simpa using I,λt ht=>?_⟩;rcases E t ht with h3|h3|h3
  .exact .inl h3
  .exact .inr h3
  .simp at h3
def A3g{s:Aj}(hs:s.Sm){x:Ty}(I:x.Sm):(Dz s x).Sm:=by
 unfold Dz;split
 .exact⟨hs.types,hs.calls⟩
 .rename_i h;obtain⟨J,E⟩:=Zh (cmp:=Cs) (x:=x) s.types;refine⟨⟨by simp only;unfold sm;omega,λt ht=>?_⟩,hs.calls⟩;rcases E t ht with rfl|h3
  .exact I
  .exact hs.types.2 t h3
def C5w{s:Aj}(hs:s.Sm){x:Ad}(I:x.Sm):(Fh s x).Sm:=by
 unfold Fh;split
 .exact⟨hs.types,hs.calls⟩
 .rename_i h;obtain⟨J,E⟩:=Zh (cmp:=Ba) (x:=x) s.calls;refine⟨hs.types,⟨by simp only;unfold sm;omega,λt ht=>?_⟩⟩;rcases E t ht with rfl|h3
  .exact I
  .exact hs.calls.2 t h3
def P8(s:Aj)(e:Ex)(z:Ty × Fj):Aj:=if z.2.bad=true then{ s with Cv:=s.Cv ||z.2.Cv } else Fh (Dz { s with Cv:=s.Cv ||z.2.Cv } z.1) ⟨z.1,e.name,e.targs⟩
def Jh(p:Prog)(vars:List Param)(s:Aj)(e:Ex):Aj:=if e.kind=3\/e.kind=5 then Dz s e.type else if e.kind=2 then(match e.kids with
 |[]=>s
 |v::_=>P8 s e (Di ⟨p,false,[],vars⟩ v))else s
def Md(p:Prog)(s:Aj)(e:Ex)(vars:List Param):Aj:=(Bg e).foldl (Jh p vars) s
def G8v{s:Aj}(hs:s.Sm){e:Ex}(I:e.Sm){z:Ty × Fj}(hz:z.1.Sm):(P8 s e z).Sm:=by
 unfold P8;have E:Aj.Sm { s with Cv:=s.Cv ||z.2.Cv }:=⟨hs.types,hs.calls⟩;split
 .exact E
 .exact C5w (A3g E hz) ⟨hz,I.name,I.targs⟩
def D6q{p:Prog}{vars:List Param}(I:C3.Sm ⟨p,false,[],vars⟩){s:Aj}(hs:s.Sm){e:Ex}(E:e.Sm):(Jh p vars s e).Sm:=by
 unfold Jh;split
 .exact A3g hs E.type
 split
 .split
  .exact hs
  .rename_i v vs J;exact G8v hs E (B4h I v (E.kids.2 v (by rw[J];simp)))
 .exact hs
def C9v{p:Prog}{vars:List Param}(E:C3.Sm ⟨p,false,[],vars⟩):∀(l:List Ex) {s:Aj},s.Sm->(∀x,x∈l->x.Sm)->(l.foldl (Jh p vars) s).Sm
 |[],_,hs,_=>hs
 |e::l,_,hs,h=>C9v E l (D6q E hs (h e (by simp))) λx I=>h x (by simp[I])
def Ii(d:Decl):List A3:=d.vars++Af d.sig.A1
def J9(x:Ty)(c:Ad):List Ty:=x.args++c.targs
def Ue(p:Prog)(d:Decl)(x:Ty)(c:Ad):List Param:=(H3 p false d).vars.map (Param.subst (Ii d) (J9 x c))
def Nw(d:Decl)(x:Ty)(c:Ad):Ex:=d.body.subst (Ii d) (J9 x c)
def No(p:Prog)(s:Aj)(x:Ty)(c:Ad):Aj:=if Lw p x c.name<0 then s else match p.decls[(Lw p x c.name).toNat]? with
 |none=>s
 |some d=>Md p s (Nw d x c) (Ue p d x c)
def D7i(p:Prog)(x:Ty)(m:A3):Lw p x m<0\/∃(j:Nat)(d:Decl),Lw p x m=j/\p.decls[j]?=some d/\d.kind=3:=by
 unfold Lw;split
 .rcases M9 (Ka x.name m) p.decls with⟨E,_⟩|⟨j,d,E,I,J⟩
  .left;unfold P3;rw[E];split
   .rw[A6 (by omega)];decide
   .decide
  .unfold P3;rw[E,Hs,I];simp only;split
   .refine .inr ⟨j,d,rfl,I,?_⟩;simp only[Ka,Bc,Da]at J;exact J.1.1
   .exact .inl (by decide)
 .exact .inl (by decide)
def Zr{x:Ty}{c:Ad}(E:x.Sm)(J:c.Sm):∀u,u∈J9 x c->u.Sm:=λu I=>(D2.1 I).elim (E.arg u) (J.targs.2 u)
def E5j{p:Prog}(h:p.Fit){d:Decl}(E:d∈p.decls){x:Ty}{c:Ad}(M:x.Sm)(L:c.Sm):C3.Sm ⟨p,false,[],Ue p d x c⟩:=by have hs:=A6p h.sm false (h.sm.decls.2 d E) (h.two d E) (h.par d E);refine⟨h.sm,by simp,by simp,by simp only[Ue,Bn];exact hs.vl,λf I=>?_⟩;obtain⟨g,J,rfl⟩:=B1.1 I;have:=hs.vars g J;exact⟨this.name,this.type.subst (Zr M L)⟩
def F6c{p:Prog}(h:p.Fit){s:Aj}(hs:s.Sm){x:Ty}{c:Ad}(I:x.Sm)(J:c.Sm):(No p s x c).Sm:=by
 unfold No;split
 .exact hs
 .split
  .exact hs
  .rename_i d L;have E:=Br L;refine C9v (E5j h E I J) _ hs λy M=>?_;exact A8s (Q:=Ex.Sm) (λe h x I=>h.kids.2 x I) _ (Ex.Sm.subst (Zr I J) _ (h.sm.decls.2 d E).body) y M
def Jg(s:Aj)(l:List Ty):Aj:=l.foldl Dz s
def Km(p:Prog)(x:Ty)(c:Ad):Option A5:=if Gj (D8 p [] x) c.name<0 then none else match(D8 p [] x)[(Gj (D8 p [] x) c.name).toNat]? with
 |none=>none
 |some g=>if g.A1.length=c.targs.length/\Dd p [] x c.on=true then some g else none
def Ks(g:A5)(c:Ad):List Ty:=g.params.map λq=>q.type.subst (Af g.A1) c.targs
def Lg(g:A5)(c:Ad):Ty:=g.result.subst (Af g.A1) c.targs
def Ju(p:Prog)(x:Ty)(out:Aj)(c:Ad):Aj:=match Km p x c with
 |none=>out
 |some g=>No p (Dz (Jg out (Ks g c)) (Lg g c)) x c
def Rf(p:Prog)(s out:Aj)(x:Ty):Aj:=s.calls.foldl (Ju p x) (if Ch p x 1=true then Jg out ((Bh p x).map (·.type))else out)
def Kw(p:Prog)(s:Aj):Aj:=s.types.foldl (Rf p s) s
def C3x:∀(l:List Ty) {s:Aj},s.Sm->(∀t,t∈l->t.Sm)->(Jg s l).Sm
 |[],_,hs,_=>hs
 |t::l,_,hs,h=>C3x l (A3g hs (h t (by simp))) λu E=>h u (by simp[E])
def E1b{p:Prog}(h:p.Fit){x:Ty}(O:x.Sm){out:Aj}(M:out.Sm){c:Ad}(L:c.Sm):(Ju p x out c).Sm:=by
 unfold Ju;split
 .exact M
 .rename_i g E;have I:g.Sm:=by
   unfold Km at E;split at E
   .cases E
   .split at E
    .cases E
    .rename_i V J;split at E
     .cases E;exact Ya h.sm (by simp) O _ (Br J)
     .cases E
  refine F6c h (A3g (C3x _ M λt ht=>?_) (I.result.subst L.targs.2)) O L;obtain⟨q,U,rfl⟩:=B1.1 ht;exact(I.params.2 q U).type.subst L.targs.2
def C9m{α:Type}{f:Aj->α->Aj}:∀(l:List α) {s:Aj},(∀s a,a∈l->s.Sm->(f s a).Sm)->s.Sm->(l.foldl f s).Sm
 |[],_,_,hs=>hs
 |a::l,_,h,hs=>C9m l (λs b E=>h s b (by simp[E])) (h _ a (by simp) hs)
def D4u{p:Prog}(h:p.Fit){s:Aj}(hs:s.Sm){x:Ty}(J:x.Sm){out:Aj}(I:out.Sm):(Rf p s out x).Sm:=by
 refine C9m _ (λO c M E=>E1b h J E (hs.calls.2 c M)) ?_;split
 .refine C3x _ I λt ht=>?_;obtain⟨f,L,rfl⟩:=B1.1 ht;exact(A9p h.sm J f L).type
 .exact I
def E3t{p:Prog}(h:p.Fit){s:Aj}(hs:s.Sm):(Kw p s).Sm:=C9m _ (λJ x I E=>D4u h hs (hs.types.2 x I) E) hs
abbrev Q9:Aj:=⟨[],[],false⟩
def Gm(p:Prog):Nat->Aj->Int->Aj × Bool
 |0,_,_=>(Q9,false)
 |k+1,s,n=>if n=E7 s then(if Sq s=true then(Q9,false)else(s,true))else if Sq s=true then(Q9,false)else Gm p k (Kw p s) (E7 s)
def Cp(p:Prog):Aj × Bool:=Gm p 64 (Md p Q9 p.main []) (-1)
def D5x{α:Type}{cmp:α->α->Int}{x:α}:∀{l:List α} {done:Bool} {out R:List α},G3 cmp x l done out=some R->out.length+l.length<=R.length
 |[],done,out,R,h=>by rw[G3]at h;cases h;cases done <;> simp
 |t::l,done,out,R,h=>by
  rw[G3]at h;split at h
  .cases h
  split at h <;> (have:=D5x h;simp at this |-;omega)
def D8b{α:Type}{cmp:α->α->Int}{x:α}(l:List α):l.length<=(J8 cmp l x).length:=by
 unfold J8;cases h:G3 cmp x l false []with
 |none=>exact Bi _
 |some R=>have:=D5x h;simpa using this
def B5a(s:Aj)(x:Ty):E7 s<=E7 (Dz s x):=by
 unfold Dz;split
 .exact Bi _
 .have:=D8b (cmp:=Cs) (x:=x) s.types;simp only[E7];omega
def E1r(s:Aj)(x:Ad):E7 s<=E7 (Fh s x):=by
 unfold Fh;split
 .exact Bi _
 .have:=D8b (cmp:=Ba) (x:=x) s.calls;simp only[E7];omega
def D7n{s:Aj}(h:Sq s=false):E7 s<=60:=by unfold Sq at h;simp only[Uz,Rw]at h;omega
def E7i{p:Prog}(h:p.Fit):∀(k:Nat) {s:Aj} (n:Int),s.Sm->(Gm p k s n).1.Sm
 |0,_,_,_=>⟨by simp[Gm],by simp[Gm]⟩
 |k+1,s,n,hs=>by
  have E:Aj.Sm Q9:=⟨by simp,by simp⟩;rw[Gm];split
  .split
   .exact E
   .exact hs
  .split
   .exact E
   .exact E7i h k _ (E3t h hs)
def D8u{p:Prog}(h:p.Fit):(Md p Q9 p.main []).Sm:=C9v (vars:=[]) ⟨h.sm,by simp,by simp,by simp,by simp⟩ _ ⟨by simp,by simp⟩ λy E=>A8s (Q:=Ex.Sm) (λe h x I=>h.kids.2 x I) _ h.sm.main y E
def A5w{p:Prog}(h:p.Fit):(Cp p).1.Sm:=E7i h _ _ (D8u h)
end Go.Abs
