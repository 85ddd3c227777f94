/- the types of a program, as castingsref06 lists them; what has no type parameters -/
import Derived.Test.YtieakoebgfiniaaGreatDoorZS58
import Derived.Test.YtieakoebgfiniaaGreatDoorZU01
import Derived.Test.YtieakoebgfiniaaGreatDoorZS95
set_option linter.all false
set_option maxHeartbeats 4000000
set_option maxRecDepth 100000
namespace Go.Abs
open Go
def A6p(x:Ex):List Ty:=x.targs++if x.kind=3\/x.kind=5 then[x.type]else[]
def Nb(l:List Ex):List Ty:=l.flatMap A6p
def R4(e:Ex):List Ty:=Nb (B8 e)
def Lc(l:List Ah):List Ty:=l.map (·.bound)
def Li(l:List Param):List Ty:=l.map (·.type)
def Qw(s:A3):List Ty:=Lc s.A1++Li s.params++[s.result]
def Sw(l:List A3):List Ty:=l.flatMap Qw
def A0p(d:Decl):List Ty:=if d.kind=3 then Qw d.sig++R4 d.body else[]
def A8r(d:Decl):List Ty:=Lc d.A1++Li d.fields++Sw d.sigs++A0p d
def Up(l:List Decl):List Ty:=l.flatMap A8r
def Q0(p:Prog):List Ty:=Up p.decls++R4 p.main
def Q8(e:Ex):Bool:=(B8 e).all λx=>decide (x.targs.length=0)
def A2d(l:List A3):Bool:=l.all λs=>decide (s.A1.length=0)
def Yu(d:Decl):Bool:=decide (d.A1.length+d.vars.length+d.sig.A1.length=0) && (Q8 d.body && A2d d.sigs)
def A2o(l:List Ty):Bool:=l.all λt=>decide (t.args.length=0)
def A1q(p:Prog):Bool:=A2o (Q0 p) && (p.decls.all Yu && Q8 p.main)
def ExQ(Q:Ty->Prop)(e:Ex):Prop:=(e.kind=3\/e.kind=5->Q e.type)/\∀t,t∈e.targs->Q t
structure B3e(Q:Ty->Prop)(s:A3):Prop where
 A1:∀f,f∈s.A1->Q f.bound
 params:∀f,f∈s.params->Q f.type
 result:Q s.result
structure E6b(Q:Ty->Prop)(d:Decl):Prop where
 A1:∀f,f∈d.A1->Q f.bound
 fields:∀f,f∈d.fields->Q f.type
 sigs:∀s,s∈d.sigs->B3e Q s
 sig:d.kind=3->B3e Q d.sig
 body:d.kind=3->∀x,x∈B8 d.body->ExQ Q x
def F2t{Q:Ty->Prop}{p:Prog}(hd:∀d,d∈p.decls->E6b Q d)(W:∀x,x∈B8 p.main->ExQ Q x):∀t,t∈Q0 p->Q t:=by
 have L:∀e:Ex,(∀x,x∈B8 e->ExQ Q x)->∀t,t∈R4 e->Q t:=by
  intro e he t ht;unfold R4 Nb at ht;obtain⟨x,V,ht⟩:=Ak8.1 ht;obtain⟨Z,h2⟩:=he x V;unfold A6p at ht;rcases Bz.1 ht with ht|ht
  .exact h2 t ht
  .split at ht
   .rename_i O;simp only[B1,E5,Ea]at ht;rw[ht];exact Z O
   .simp at ht
 have J:∀s:A3,B3e Q s->∀t,t∈Qw s->Q t:=by
  intro s hs t ht;simp only[Qw,Lc,Li,Bz,Au,B1,E5,Ea]at ht;rcases ht with(⟨f,I,rfl⟩|⟨f,I,rfl⟩)|rfl
  .exact hs.A1 f I
  .exact hs.params f I
  .exact hs.result
 intro t ht;unfold Q0 Up at ht;rcases Bz.1 ht with ht|ht
 .obtain⟨d,U,ht⟩:=Ak8.1 ht;have E:=hd d U;unfold A8r at ht;simp only[Bz]at ht;rcases ht with((ht|ht)|ht)|ht
  .obtain⟨f,I,rfl⟩:=Au.1 ht;exact E.A1 f I
  .obtain⟨f,I,rfl⟩:=Au.1 ht;exact E.fields f I
  .unfold Sw at ht;obtain⟨s,hs,ht⟩:=Ak8.1 ht;exact J s (E.sigs s hs) t ht
  .unfold A0p at ht;split at ht
   .rename_i O;rcases Bz.1 ht with ht|ht
    .exact J d.sig (E.sig O) t ht
    .exact L d.body (E.body O) t ht
   .simp at ht
 .exact L p.main W t ht
open Go Go.Proofs Tryz
def Ty.E4b:∀(l:List Ty)(k:Int),Ty.Ce l k<=2000->k+(l.length:Int)<=Ty.Ce l k
 |[],k,_=>by simp[Ty.Ce]
 |t::E,k,h=>by
  simp only[Ty.Ce]at h |-;split at h
  .rename_i I;rw[A8 I];have L:=Ty.E4b E _ h;have J:=Ty.F6 t k;simp only[Bg];omega
  .omega
def G7w(e:Ex)(l:List Ex):Nb (e::l)=A6p e++Nb l:=rfl
def C1v(a b:List Ex):Nb (a++b)=Nb a++Nb b:=by simp[Nb]
def F7y(x:Ex):(A6p x).length<=x.targs.length+1:=by unfold A6p;rw[B6];split <;> simp
mutual
theorem Ex.C9u:∀(e:Ex)(k:Int),e.count k<=2000->k+((B8 e).length:Int)<=e.count k/\k+((R4 e).length:Int)<=e.count k
 |.mk I n t a ks p,k,h=>by simp only[Ex.count]at h |-;have O:=Ty.F6 t (k+((n.length / 50:Nat):Int));have U:=Ty.Kr a (t.count (k+((n.length / 50:Nat):Int)));have V:=Ex.Kr ks (Ty.Ce a (t.count (k+((n.length / 50:Nat):Int))));have g2:=Ty.E4b a (t.count (k+((n.length / 50:Nat):Int))) (by omega);obtain⟨g3,g4⟩:=Ex.D5g ks (Ty.Ce a (t.count (k+((n.length / 50:Nat):Int)))) h;have W:=F7y (.mk I n t a ks p);rw[show(Ex.mk I n t a ks p).targs=a from rfl]at W;unfold R4;rw[B8,G7w];simp only[Bg,B6];omega
theorem Ex.D5g:∀(l:List Ex)(k:Int),Ex.Ce l k<=2000->k+((Co l).length:Int)<=Ex.Ce l k/\k+((Nb (Co l)).length:Int)<=Ex.Ce l k
 |[],k,_=>by simp[Ex.Ce,Co,Nb]
 |t::E,k,h=>by
  simp only[Ex.Ce]at h |-;split at h
  .rename_i J;rw[A8 J];have O:=Ex.Kr E (t.count k);obtain⟨U,V⟩:=Ex.D5g E (t.count k) h;obtain⟨Z,L⟩:=Ex.C9u t k (by omega);unfold R4 at L;rw[Co,C1v];simp only[B6];omega
  .omega
end
structure Ex.Le(e:Ex):Prop where
 list:(B8 e).length<=2000
 Da:(R4 e).length<=2000
def Ex.Tp(e:Ex)(k:Int)(E:0<=k)(h:e.count k<=2000):e.Le:=by have:=Ex.C9u e k h;exact⟨by omega,by omega⟩
structure A3.Le(s:A3):Prop where
 A1:s.A1.length<=2000
 params:s.params.length<=2000
structure Decl.Le(d:Decl):Prop where
 A1:d.A1.length<=2000
 fields:d.fields.length<=2000
 A7e:d.sigs.length<=3000
 sigs:∀s,s∈d.sigs->s.Le
 sig:d.sig.Le
 body:d.body.Le
structure Prog.Le(p:Prog):Prop where
 A8x:p.decls.length<=200000
 decls:∀d,d∈p.decls->d.Le
 main:p.main.Le
def A3.Tp(s:A3)(n:Int)(W:0<=n)(h:s.count n<=2000):s.Le:=by unfold A3.count at h;obtain⟨O,I⟩:=A5f s.A1 (n+((s.name.length / 50:Nat):Int));obtain⟨U,E⟩:=A4e s.params (C5 s.A1 (n+((s.name.length / 50:Nat):Int)));have L:=Ty.F6 s.result (D2 s.params (C5 s.A1 (n+((s.name.length / 50:Nat):Int))));have J:=(I (by omega) (by omega)).1;have V:=(E (by omega) (by omega)).1;exact⟨by omega,by omega⟩
def F3c:Nj En A3.Le:=Mw En A3.count A3.Le (λ_=>rfl) (λ_ _ _=>rfl) (λx k=>(A3.Gt x k).1) (λx k E h=>A3.Tp x k E h)
def Decl.Tp(d:Decl)(n:Int)(h0:0<=n)(h:d.count n<=2000):d.Le:=by
 unfold Decl.count at h;generalize O:n+1+((d.name.length / 50:Nat):Int)+((d.recv.length / 50:Nat):Int)=m at h;obtain⟨a1,J⟩:=A5f d.A1 m;obtain⟨b1,I⟩:=A4e d.fields (C5 d.A1 m);obtain⟨W,E⟩:=F3c d.sigs (D2 d.fields (C5 d.A1 m));obtain⟨e1,e2⟩:=A2z d.vars (En d.sigs (D2 d.fields (C5 d.A1 m)));generalize hz:Ix d.vars (En d.sigs (D2 d.fields (C5 d.A1 m)))=z at*;unfold Decl.S6 at h;obtain⟨f1,_⟩:=A3.Gt d.sig z;have Z:=Ex.F6 d.body (d.sig.count z);split at h
 .have L:=(J (by omega) (by omega)).1;have V:=(I (by omega) (by omega)).1;have U:=(E (by omega) (by omega)).1;exact⟨by omega,by omega,by omega,(E (by omega) (by omega)).2,A3.Tp d.sig z (by omega) (by omega),Ex.Tp d.body (d.sig.count z) (by omega) h⟩
 .omega
def F8t:Nj J3 Decl.Le:=Mw J3 Decl.count Decl.Le (λ_=>rfl) (λ_ _ _=>rfl) (λx k=>(Decl.Gt x k).1) (λx k E h=>Decl.Tp x k E h)
def Prog.Tp(p:Prog)(h:p.count<=600):p.Le:=by unfold Prog.count at h;have J:=Ex.F6 p.main 0;obtain⟨I,E⟩:=F8t p.decls (p.main.count 0);have:=(E (by omega) (by omega)).1;exact⟨by omega,(E (by omega) (by omega)).2,Ex.Tp p.main 0 (by omega) (by omega)⟩
def B2v{α β:Type}(f:α->List β)(c:Nat):∀l:List α,(∀x,x∈l->(f x).length<=c)->(l.flatMap f).length<=l.length*c
 |[],_=>by simp
 |a::l,h=>by rw[Zw,B6,Bg,Nat.succ_mul];have:=B2v f c l λx E=>h x (by simp[E]);have:=h a (by simp);omega
def B7d{s:A3}(h:s.Le):(Qw s).length<=4001:=by have:=h.A1;have:=h.params;simp only[Qw,Lc,Li,B6,Bc,Bg,Ca];omega
def C8v{l:List A3}(E:l.length<=3000)(h:∀s,s∈l->s.Le):(Sw l).length<=12003000:=by have J:=B2v Qw 4001 l λs hs=>B7d (h s hs);have I:l.length*4001<=3000*4001:=Hp _ E;unfold Sw;omega
def H4g{l:List A3}(E:l.length<=3000)(h:∀s,s∈l->s.Le)(j:Nat):(Sw (l.take j)).length<=12003000 :=
 C8v (by rw[D4];omega) λs hs=>h s (Ji hs)
def G5g{d:Decl}(h:d.Le):(A0p d).length<=6001:=by
 unfold A0p;split
 .rw[B6];have:=B7d h.sig;have:=h.body.Da;omega
 .simp
def H2r{d:Decl}(h:d.Le):(A8r d).length<=13000000:=by have:=C8v h.A7e h.sigs;have:=G5g h;have:=h.A1;have:=h.fields;simp only[A8r,Lc,Li,B6,Bc];omega
def C5h{l:List Decl}(E:l.length<=200000)(h:∀s,s∈l->s.Le):(Up l).length<=2600000000000:=by have J:=B2v A8r 13000000 l λs hs=>H2r (h s hs);have I:l.length*13000000<=200000*13000000:=Hp _ E;unfold Up;omega
def F7m{l:List Decl}(E:l.length<=200000)(h:∀s,s∈l->s.Le)(j:Nat):(Up (l.take j)).length<=2600000000000 :=
 C5h (by rw[D4];omega) λs hs=>h s (Ji hs)
def C3b{p:Prog}(h:p.Le):(Q0 p).length<=2600000002000:=by have:=C5h h.A8x h.decls;have:=h.main.Da;unfold Q0;rw[B6];omega
def Ey(s:An):Nat:=s.types.length+s.calls.length
def E2f(s:An)(hs:s.Sm):Aa Tryz.prog 23 [Jh s] (A5 (Ey s)):=by
 have J:=hs.types.1;have I:=hs.calls.1;have E:((Ey s:Nat):Int)=(s.types.length:Int)+s.calls.length:=by unfold Ey;omega
 rw[E];refine cB func23 ?_;refine sR [0,1,2] ?_
 (refine sQ [0,1,2] λK z=>?_;simp -implicitDefEqProofs only[EV,Nat.reduceEqDiff,reduceCtorEq,M1,Jd,Pw,L9];refine⟨by first| (unfold B4;omega)| (simp only[B4,sm]at*;omega),?_⟩;apply z;clear z K)
 exact aR
def Uj(s:An):Bool:=s.types.any (λt=>decide (60<t.count 0)) ||(s.calls.any (λc=>decide (60<(Ty.mk [] c.targs 0).count 0)) ||(s.D9 ||decide (60<Ey s)))
abbrev N6:List Nat:=[0,1,2,3,4,9,18,23,34]
def G1s(s:An)(hs:s.Sm):Aa Tryz.prog 24 [Jh s] (Aw (Uj s)):=by
 have h1:=hs.types.1;have h2:=hs.calls.1;have hz:=E2f s hs;unfold Uj;generalize Ey s=z at*;refine cB func24 ?_;refine sR N6 ?_;refine kR N6 λK1 u1=>?_;refine A0.bb (A0.ii s.types (X:=Unit) (λj _=>[(1,.box 1 0),(3,A5 j)]) (λj _=>[(1,.cells (J1 s))])
  (λj _=>s.types.any (λt=>decide (60<t.count 0))=(s.types.drop j).any (λt=>decide (60<t.count 0))) () rfl sS sB ?_ ?_)
 rotate_left
 .intro j _ u V a0 dp tk U I;have Z:=A3c u 0 (by decide) (by decide);rw[dp,List.any_cons]at I;generalize u.count 0=k at*;refine Ai U N6 λL u2=>?_;refine gI u2 ?_;clear u2 L;refine sK λL u2=>A0.bb ?_;by_cases J:60<k
  .have E:k > 60:=J;rw[I,Bj J,Uk,Uk]
   (refine sV N6 λK z=>?_;refine ci (Et V) ?_;refine⟨_,.inl ⟨_,rfl,Z,rfl⟩,?_⟩;(try refine Ap E ?_);apply z;clear z K)
   refine A0.tt rfl<|sR N6 ?_;exact aR
  .have E:¬k > 60:=J;rw[C9 J,V8]at I
   (refine sV N6 λK z=>?_;refine ci (Et V) ?_;refine⟨_,.inl ⟨_,rfl,Z,rfl⟩,?_⟩;(try refine Ap E ?_);apply z;clear z K)
   refine A0.ff rfl (A0.kk (u2 _ _ ?_));clear u2 L;refine lT N6 ?_;exact⟨(),I,sS,by simp[ble,A7]⟩
 intro _ I;rw[Db,List.any_nil]at I;rw[I,V8]at u1 |-;clear I;refine Ai B3 N6 λL u2=>?_;refine A0.ss rfl ?_;simp only[A4,Ac,Af];refine u1 _ _ ?_;clear u1 K1 u2 L;refine kR N6 λK1 u1=>?_;refine A0.bb (A0.ii s.calls (X:=Unit) (λj _=>[(1,.box 1 0),(4,A5 j)]) (λj _=>[(1,.cells (J1 s))])
  (λj _=>s.calls.any (λc=>decide (60<(Ty.mk [] c.targs 0).count 0))=(s.calls.drop j).any (λc=>decide (60<(Ty.mk [] c.targs 0).count 0))) () rfl sS sB ?_ ?_)
 rotate_left
 .intro j _ u V a0 dp tk U I;have Z:=A3c (.mk [] u.targs 0) 0 (by decide) (by decide);rw[dp,List.any_cons]at I;generalize(Ty.mk [] u.targs 0).count 0=k at*;refine sK λL u2=>?_
  (refine sQ N6 λK z=>?_;simp -implicitDefEqProofs only[EV,Nat.reduceEqDiff,reduceCtorEq,Jd,Pw,U,L9];apply z;clear z K)
  refine gI u2 ?_;clear u2 L;refine sK λL u2=>A0.bb ?_;by_cases J:60<k
  .have E:k > 60:=J;rw[I,Bj J,Uk,Uk]
   (refine sV N6 λK z=>?_;refine⟨by omega,_,J4 V,rfl,?_⟩;(try simp -implicitDefEqProofs only[EV,Nat.reduceAdd,Nat.reduceEqDiff,Nat.reduceLeDiff,reduceCtorEq,Iw,H3]);refine⟨_,.inl ⟨_,rfl,Z,rfl⟩,?_⟩;(try refine Ap E ?_);apply z;clear z K)
   refine A0.tt rfl<|sR N6 ?_;exact aR
  .have E:¬k > 60:=J;rw[C9 J,V8]at I
   (refine sV N6 λK z=>?_;refine⟨by omega,_,J4 V,rfl,?_⟩;(try simp -implicitDefEqProofs only[EV,Nat.reduceAdd,Nat.reduceEqDiff,Nat.reduceLeDiff,reduceCtorEq,Iw,H3]);refine⟨_,.inl ⟨_,rfl,Z,rfl⟩,?_⟩;(try refine Ap E ?_);apply z;clear z K)
   refine A0.ff rfl (A0.kk (u2 _ _ ?_));clear u2 L;refine lT N6 ?_;exact⟨(),I,sS,by simp[ble,A7]⟩
 intro _ I;rw[Db,List.any_nil]at I;rw[I,V8]at u1 |-;clear I;refine sK λL u2=>?_
 (refine sQ N6 λK z=>?_;simp -implicitDefEqProofs only[EV,Nat.reduceEqDiff,reduceCtorEq,Jd,Pw,B3,L9];apply z;clear z K)
 refine A0.ss rfl ?_;simp only[A4,Ac,Af];refine u1 _ _ ?_;clear u1 K1 u2 L;have a1:s=⟨s.types,s.calls,s.D9⟩:=rfl;cases O:s.D9 with
 |true =>rw[Uk];refine Ak O N6 ?_;exact aR
 |false =>
  rw[V8];have W:Aa Tryz.prog 23 [.agg [.d (.slice (Ax s.types)),.d (.slice (Mn s.calls)),.d (.bool false)]] (A5 z):=by rw[<-O];exact hz
  by_cases J:60<z
  .have E:(z:Int) > 60:=by omega
   rw[Bj J]
   (refine sQ N6 λK z=>?_;refine Ap O ?_;refine⟨_,.inl ⟨_,rfl,W,rfl⟩,?_⟩;(try refine Ap E ?_);apply z;clear z K)
   exact aR
  .have E:¬(z:Int) > 60:=by omega
   rw[C9 J]
   (refine sQ N6 λK z=>?_;refine Ap O ?_;refine⟨_,.inl ⟨_,rfl,W,rfl⟩,?_⟩;(try refine Ap E ?_);apply z;clear z K)
   exact aR
def C4j{α:Type}{cmp:α->α->Int}{x:α}:∀{l:List α} {done:Bool} {out R:List α},Fu cmp x l done out=some R->R.length<=out.length+l.length+(if done=true then 0 else 1)/\∀t,t∈R->t=x\/t∈l\/t∈out
 |[],done,out,R,h=>by
  rw[Fu]at h;cases h;cases done
  .simp;intro t ht;rcases ht with h|h <;> simp[h]
  .simp;intro t ht;simp[ht]
 |t::l,done,out,R,h=>by
  rw[Fu]at h;split at h
  .cases h
  split at h
  .obtain⟨J,E⟩:=C4j h;refine⟨by clear E;cases done <;> simp_all <;> omega,λu I=>?_⟩;rcases E u I with h3|h3|h3
   .exact .inl h3
   .exact .inr (.inl (by simp[h3]))
   .simp only[Bz,B1,E5,Ea]at h3;rcases h3 with h3|h3|h3
    .exact .inr (.inr h3)
    .exact .inl h3
    .exact .inr (.inl (by simp[h3]))
  .obtain⟨J,E⟩:=C4j h;refine⟨by clear E;cases done <;> simp_all <;> omega,λu I=>?_⟩;rcases E u I with h3|h3|h3
   .exact .inl h3
   .exact .inr (.inl (by simp[h3]))
   .simp only[Bz,B1,E5,Ea]at h3;rcases h3 with h3|h3
    .exact .inr (.inr h3)
    .exact .inr (.inl (by simp[h3]))
def A4c{α:Type}{cmp:α->α->Int}{x:α}(l:List α):(I6 cmp l x).length<=l.length+1/\∀t,t∈I6 cmp l x->t=x\/t∈l:=by
 unfold I6;cases h:Fu cmp x l false []with
 |none=>exact⟨by simp,λt ht=>.inr ht⟩
 |some R =>
  obtain⟨I,E⟩:=C4j h;refine⟨by simpa using I,λt ht=>?_⟩;rcases E t ht with h3|h3|h3
  .exact .inl h3
  .exact .inr h3
  .simp at h3
def A1o{s:An}(hs:s.Sm){x:Ty}(E:x.Sm):(Gp s x).Sm:=by
 unfold Gp;split
 .exact⟨hs.types,hs.calls⟩
 .rename_i h;obtain⟨J,I⟩:=A4c (cmp:=E6) (x:=x) s.types;refine⟨⟨by simp only;unfold sm;omega,λt ht=>?_⟩,hs.calls⟩;rcases I t ht with rfl|h3
  .exact E
  .exact hs.types.2 t h3
def C2w{s:An}(hs:s.Sm){x:B9}(E:x.Sm):(Gj s x).Sm:=by
 unfold Gj;split
 .exact⟨hs.types,hs.calls⟩
 .rename_i h;obtain⟨J,I⟩:=A4c (cmp:=Dn) (x:=x) s.calls;refine⟨hs.types,⟨by simp only;unfold sm;omega,λt ht=>?_⟩⟩;rcases I t ht with rfl|h3
  .exact E
  .exact hs.calls.2 t h3
def T0(s:An)(e:Ex)(z:Ty × F8):An:=if z.2.bad=true then{ s with D9:=s.D9 ||z.2.D9 } else Gj (Gp { s with D9:=s.D9 ||z.2.D9 } z.1) ⟨z.1,e.name,e.targs⟩
def Kv(p:Prog)(vars:List Param)(s:An)(e:Ex):An:=if e.kind=3\/e.kind=5 then Gp s e.type else if e.kind=2 then(match e.kids with
 |[]=>s
 |v::_=>T0 s e (Dk ⟨p,false,[],vars⟩ v))else s
def Nc(p:Prog)(s:An)(e:Ex)(vars:List Param):An:=(B8 e).foldl (Kv p vars) s
def F0m{s:An}(hs:s.Sm){e:Ex}(J:e.Sm){z:Ty × F8}(I:z.1.Sm):(T0 s e z).Sm:=by
 unfold T0;have E:An.Sm { s with D9:=s.D9 ||z.2.D9 }:=⟨hs.types,hs.calls⟩;split
 .exact E
 .exact C2w (A1o E I) ⟨I,J.name,J.targs⟩
def E6s{p:Prog}{vars:List Param}(I:Cf.Sm ⟨p,false,[],vars⟩){s:An}(hs:s.Sm){e:Ex}(E:e.Sm):(Kv p vars s e).Sm:=by
 unfold Kv;split
 .exact A1o hs E.type
 split
 .split
  .exact hs
  .rename_i v vs J;exact F0m hs E (B1z I v (E.kids.2 v (by rw[J];simp)))
 .exact hs
def C1p{p:Prog}{vars:List Param}(E:Cf.Sm ⟨p,false,[],vars⟩):∀(l:List Ex) {s:An},s.Sm->(∀x,x∈l->x.Sm)->(l.foldl (Kv p vars) s).Sm
 |[],_,hs,_=>hs
 |e::l,_,hs,h=>C1p E l (E6s E hs (h e (by simp))) λx I=>h x (by simp[I])
abbrev Ic:List Nat:=[0,1,2,3,4,5,6,8,9,10,11,12,18,34,47,71]
def E6j(p:Prog)(vars:List Param)(hc:Cf.Sm ⟨p,false,[],vars⟩)(s:An)(hs:s.Sm)(e:Ex)(he:e.Sm)(a':e.Gz)(hl:(B8 e).length<=sm) :
  Aa Tryz.prog 22 [Ct p,Jh s,D3 e,.d (.slice (Av vars))] (Jh (Nc p s e vars)):=by
 have h1:=D9m e hl;have a3:=A8n (Q:=λx=>x.Sm/\x.Gz) (λe h x hx=>⟨h.1.kids.2 x hx,h.2.kids x hx⟩) e ⟨he,a'⟩;have hR:∃R,Nc p s e vars=R:=⟨_,rfl⟩;obtain⟨R,hR⟩:=hR;rw[hR];unfold Nc at hR;generalize B8 e=l at*;refine cB func22 ?_;refine sR Ic ?_;refine sC h1 Ic ?_;refine kR Ic λK1 u1=>?_;refine A0.bb (A0.ii l (X:=An) (λj s=>[(3,.d (.slice (Av vars))),(4,.box 4 0),(5,.box 5 0),(6,.box 6 0),(8,.box 8 0),(9,.d (.slice (Eb l))),(10,A5 j)])
  (λj s=>[(4,.cells ((Aj p).map .d)),(5,.cells (J1 s)),(6,.cells (exS e)),(8,.cells [.d .nil,.d .nil,.d (.bool false)])])
  (λj s=>(l.drop j).foldl (Kv p vars) s=R/\s.Sm) s ⟨hR,hs⟩ sS (by simp[ble,A7,Aj]) ?_ ?_)
 rotate_left
 .intro j s u J a7 dp tk a9 I;obtain⟨I,O⟩:=I;obtain⟨L,a6⟩:=a3 u a7;have E:=E6s hc O L;rw[dp,Lo]at I;refine Ai a9 Ic λZ u2=>?_;refine gI u2 ?_;clear u2 Z;refine sK λZ u2=>A0.bb<|sK λK3 u3=>?_;by_cases k3:u.kind=3
  .have d3:decide (u.kind=3)=true:=Bj k3;have n2:¬u.kind=2:=by omega
   have U:=B0t s O u.type L.type;have V:Kv p vars s u=Gp s u.type:=by unfold Kv;rw[A8 (.inl k3)]
   rw[V]at I E;clear V;generalize Gp s u.type=s2 at*
   (refine sV Ic λK z=>?_;refine⟨by omega,_,G8 J,rfl,?_⟩;(try refine Ap d3 ?_);apply z;clear z K)
   refine A0.tt rfl ?_
   (refine lG Ic [] 6 [] λK z=>?_;refine ev ?_;refine ci (G8 J) ?_;refine cc U ?_;apply z;clear z K;try simp only[A4,])
   refine u3 _ _ ?_;clear u3 K3
   (refine sV Ic λK z=>?_;refine⟨by omega,_,G8 J,rfl,?_⟩;(try refine Ap n2 ?_);apply z;clear z K)
   refine A0.ff rfl (A0.kk (u2 _ _ ?_));clear u2 Z;refine lT Ic ?_;exact⟨s2,⟨I,E⟩,sS,by simp[ble,A7,Aj]⟩
  by_cases k5:u.kind=5
  .have d5:decide (u.kind=5)=true:=Bj k5;have n2:¬u.kind=2:=by omega
   have U:=B0t s O u.type L.type;have V:Kv p vars s u=Gp s u.type:=by unfold Kv;rw[A8 (.inr k5)]
   rw[V]at I E;clear V;generalize Gp s u.type=s2 at*
   (refine sV Ic λK z=>?_;refine⟨by omega,_,G8 J,rfl,?_⟩;(try refine Ap k3 ?_);refine⟨by omega,_,G8 J,rfl,?_⟩;(try refine Ap d5 ?_);apply z;clear z K)
   refine A0.tt rfl ?_
   (refine lG Ic [] 6 [] λK z=>?_;refine ev ?_;refine ci (G8 J) ?_;refine cc U ?_;apply z;clear z K;try simp only[A4,])
   refine u3 _ _ ?_;clear u3 K3
   (refine sV Ic λK z=>?_;refine⟨by omega,_,G8 J,rfl,?_⟩;(try refine Ap n2 ?_);apply z;clear z K)
   refine A0.ff rfl (A0.kk (u2 _ _ ?_));clear u2 Z;refine lT Ic ?_;exact⟨s2,⟨I,E⟩,sS,by simp[ble,A7,Aj]⟩
  (refine sV Ic λK z=>?_;refine⟨by omega,_,G8 J,rfl,?_⟩;(try refine Ap k3 ?_);refine⟨by omega,_,G8 J,rfl,?_⟩;(try refine Ap k5 ?_);apply z;clear z K)
  refine A0.ff rfl (A0.kk (u3 _ _ ?_));clear u3 K3;by_cases k2:u.kind=2;rotate_left
  .have V:Kv p vars s u=s:=by unfold Kv;rw[A6 (by omega),A6 k2]
   rw[V]at I
   (refine sV Ic λK z=>?_;refine⟨by omega,_,G8 J,rfl,?_⟩;(try refine Ap k2 ?_);apply z;clear z K)
   refine A0.ff rfl (A0.kk (u2 _ _ ?_));clear u2 Z;refine lT Ic ?_;exact⟨s,⟨I,O⟩,sS,by simp[ble,A7,Aj]⟩
  have d2:decide (u.kind=2)=true:=Bj k2;obtain⟨v,hv⟩:=a6.some (.inl k2);have a1:=L.kids.2 v (C6 hv);have hT:=C7h ⟨p,false,[],vars⟩ hc v a1;have W:=B1z hc v a1;have V:Kv p vars s u=T0 s u (Dk ⟨p,false,[],vars⟩ v):=by
   unfold Kv;rw[A6 (by omega),A8 k2];cases hk:u.kids with
   |nil=>rw[hk]at hv;cases hv
   |cons y r=>rw[hk]at hv;cases hv;rfl
  rw[V]at I E;clear V;generalize Dk ⟨p,false,[],vars⟩ v=z at*;obtain⟨x,⟨q,b,lg⟩⟩:=z;simp only at W;obtain⟨ts,cs,a0⟩:=s;have a2:An.Sm ⟨ts,cs,a0 ||lg⟩:=⟨O.types,O.calls⟩;have a5:=B0t _ a2 x W;have a4:=A1o a2 W;have a8:=E5n _ a4 ⟨x,u.name,u.targs⟩ ⟨W,L.name,L.targs⟩;unfold T0 at I E;simp only at I E
  (refine sV Ic λK z=>?_;refine⟨by omega,_,G8 J,rfl,?_⟩;(try refine Ap d2 ?_);apply z;clear z K)
  refine A0.tt rfl ?_
  (refine sG Ic [] 17 [⟨[],[],[11,12],[11,12]⟩,⟨[],[],[11,12],[11,12]⟩,⟨[],[],[11,12],[11,12]⟩,⟨[],[],[11,12],[11,12]⟩,⟨[],[],[11,12],[11,12]⟩,⟨[],[],[11,12],[11,12]⟩,⟨[],[],[11,12],[11,12]⟩,⟨[],[],[11,12],[11,12]⟩,⟨[],[],[11,12],[11,12]⟩,⟨[],[],[11,12],[11,12]⟩,⟨[],[],[11,12],[11,12]⟩,⟨[],[],[11,12],[11,12]⟩,⟨[],[],[11,12],[11,12]⟩,⟨[],[],[11,12],[11,12]⟩,⟨[11],[11],[12],[12]⟩,⟨[12],[12],[11],[11]⟩,⟨[11],[],[],[]⟩] λK z=>?_;refine ev ?_;refine ci (G8 J) ?_;refine cj (G8 hv) ?_;refine cc hT ?_;apply z;clear z K)
  cases b with
  |true =>
   rw[A8 rfl]at I E;cases a0 <;> (
    refine sR Ic ?_;refine sR Ic ?_;refine A0.ff rfl (A0.kk (u2 _ _ ?_));clear u2 Z;refine lT Ic ?_;exact⟨_,⟨I,E⟩,sS,by simp[ble,A7,Aj]⟩)
  |false =>
   rw[A6 (by simp)]at I E;cases a0 <;> (
    simp only[Uk,V8]at I E a5 a8;generalize Gp _ x=s3 at*;generalize Gj s3 _=s4 at*;refine sR Ic ?_;refine sR Ic ?_;refine A0.tt rfl ?_
    (refine lG Ic [] 15 [] λK z=>?_;refine ev ?_;refine cc a5 ?_;refine ci (G8 J) ?_;refine ci (G8 J) ?_;refine cc a8 ?_;apply z;clear z K;try simp only[A4,Ac])
    refine u2 _ _ ?_;clear u2 Z;refine lT Ic ?_;exact⟨_,⟨I,E⟩,sS,by simp[ble,A7,Aj]⟩)
 intro s' I;obtain⟨I,_⟩:=I;rw[Db,Vs]at I;subst I;refine Ai B3 Ic λZ u2=>?_;refine A0.ss rfl ?_;simp only[A4,Ac,Af];refine u1 _ _<|sR Ic ?_;exact aR
def Mr(d:Decl):List A2:=d.vars++Ad d.sig.A1
def Jt(x:Ty)(c:B9):List Ty:=x.args++c.targs
def Ws(p:Prog)(d:Decl)(x:Ty)(c:B9):List Param:=(Na p false d).vars.map (Param.subst (Mr d) (Jt x c))
def My(d:Decl)(x:Ty)(c:B9):Ex:=d.body.subst (Mr d) (Jt x c)
def Qs(p:Prog)(s:An)(x:Ty)(c:B9):An:=if Kb p x c.name<0 then s else match p.decls[(Kb p x c.name).toNat]? with
 |none=>s
 |some d=>Nc p s (My d x c) (Ws p d x c)
mutual
theorem D0s(v:List A2)(a:List Ty):∀e:Ex,(B8 (e.subst v a)).length=(B8 e).length
 |.mk k n t l ks q=>by rw[Yr,B8,B8];have:(Ex.mk k n t l ks q).kids=ks:=rfl;rw[this,Bg,Bg,D0u v a ks]
theorem D0u(v:List A2)(a:List Ty):∀l:List Ex,(Co (l.map (Ex.subst v a))).length=(Co l).length
 |[]=>rfl
 |e::l=>by rw[Ck,Co,Co,B6,B6,D0s v a e,D0u v a l]
end
def D3w(p:Prog)(x:Ty)(m:A2):Kb p x m<0\/∃(j:Nat)(d:Decl),Kb p x m=j/\p.decls[j]?=some d/\d.kind=3:=by
 unfold Kb;split
 .rcases N4 (Fk x.name m) p.decls with⟨E,_⟩|⟨j,d,E,I,J⟩
  .left;unfold N1;rw[E];split
   .rw[A6 (by omega)];decide
   .decide
  .unfold N1;rw[E,Je,I];simp only;split
   .refine .inr ⟨j,d,rfl,I,?_⟩;simp only[Fk,Bb,Dp]at J;exact J.1.1
   .exact .inl (by decide)
 .exact .inl (by decide)
def B2p{x:Ty}{c:B9}(E:x.Sm)(I:c.Sm):∀u,u∈Jt x c->u.Sm:=λu J=>(Bz.1 J).elim (E.arg u) (I.targs.2 u)
def E6c{p:Prog}(h:p.Fit){d:Decl}(hd:d∈p.decls){x:Ty}{c:B9}(E:x.Sm)(L:c.Sm):Cf.Sm ⟨p,false,[],Ws p d x c⟩:=by have hs:=C2s h.sm false (h.sm.decls.2 d hd) (h.two d hd) (h.par d hd);refine⟨h.sm,by simp,by simp,by simp only[Ws,Bc];exact hs.vl,λf J=>?_⟩;obtain⟨g,I,rfl⟩:=Au.1 J;have:=hs.vars g I;exact⟨this.name,this.type.subst (B2p E L)⟩
def E9q{p:Prog}(h:p.Fit){s:An}(hs:s.Sm){x:Ty}{c:B9}(I:x.Sm)(J:c.Sm):(Qs p s x c).Sm:=by
 unfold Qs;split
 .exact hs
 .split
  .exact hs
  .rename_i d hd;have E:=C6 hd;refine C1p (E6c h E I J) _ hs λy L=>?_;exact A8n (Q:=Ex.Sm) (λe h x I=>h.kids.2 x I) _ (Ex.Sm.subst (B2p I J) _ (h.sm.decls.2 d E).body) y L
abbrev Lt:List Nat:=[0,1,2,3,4,5,6,7,8,9,10,11,12,13,14,15,16,23,30,39,53]
def H0h(p:Prog)(h:p.Fit)(a5:p.Le)(a8:∀d,d∈p.decls->d.kind=3->d.body.Gz)(s:An)(hs:s.Sm)(x:Ty)(U:x.Sm)(c:B9)(W:c.Sm) :
  Aa Tryz.prog 65 [Ct p,Jh s,B7 x,caV c] (Jh (Qs p s x c)):=by
 have a7:=h.sm.decls.1;have hm:=C4u p a7 x c.name;have J:=D3w p x c.name;unfold Qs;by_cases O:Kb p x c.name<0
 .rw[A8 O];generalize Kb p x c.name=i at*;refine cB func65 ?_;refine sR Lt ?_;refine sC hm Lt ?_;refine Ai O Lt λK1 u1=>?_;refine tI ?_;refine sR Lt ?_;exact aR
 .rw[A6 O];obtain⟨j,d,hj,hd,hk⟩:=J.resolve_left O;have E:=C6 hd;have I:=h.sm.decls.2 d E;rw[hj]at hm O |-;rw[Je,hd];simp only;have ac:=I.vars.1;have a3:=I.sig.A1.1;have af:=U.len;have ad:=W.targs.1;have hn:=R3 d.sig.A1 a3;have a9:=D7f p h.sm false d I (h.two d E) (h.par d E);have L:=C2s h.sm false I (h.two d E) (h.par d E);have hS:=λt ht=>Pm (Mr d) (Jt x c) (B2p U W) t ht;have hb:=E5r (Mr d) (Jt x c) (B2p U W) d.body I.body;have hN:=E6j p (Ws p d x c) (E6c h E U W) s hs (My d x c) (Ex.Sm.subst (B2p U W) _ I.body) ((a8 d E hk).subst _ _) (by
   unfold My;rw[D0s];have:=(a5.decls d E).body.list;unfold sm;omega)
  have a4:Bq (Mr d)=Bq d.vars++Bq (d.sig.A1.map (·.name)):=by simp[Mr,Bq,Ad]
  have a2:Ax (Jt x c)=Ax x.args++Ax c.targs:=by simp[Jt,Dj]
  have a':=L.vl;have a1:=L.vars;unfold Ws My at*;generalize Nc p s (d.body.subst (Mr d) (Jt x c)) ((Na p false d).vars.map (Param.subst (Mr d) (Jt x c)))=R at*;generalize ae:Mr d=NN at*;generalize ab:Jt x c=AA at*;generalize Na p false d=sc at*;refine cB func65 ?_;refine sR Lt ?_;refine sC hm Lt ?_;refine Ai O Lt λK1 u1=>?_;refine kI u1 ?_;clear u1 K1
  (refine sV Lt λK z=>?_;refine ci (Dx hd) ?_;apply z;clear z K)
  (refine sG Lt [30] 7 [⟨[30],[30],[],[]⟩,⟨[],[],[30],[30]⟩,⟨[],[],[30],[30]⟩,⟨[30],[30],[],[]⟩,⟨[],[],[30],[30]⟩,⟨[],[],[30],[30]⟩,⟨[],[],[30],[30]⟩] λK z=>?_;refine ev ?_;refine⟨A2e _,by(try simp only[Bq,Bc,Ca]);unfold lim sm at*;omega,?_⟩;(try refine ev ?_);refine cc hn ?_;refine⟨A2e _,by(try simp only[Bc]);unfold lim sm at*;omega,?_⟩;(try refine ev ?_);apply z;clear z K)
  (refine sG Lt [39] 6 [⟨[39],[39],[],[]⟩,⟨[],[],[39],[39]⟩,⟨[],[],[39],[39]⟩,⟨[39],[39],[],[]⟩,⟨[],[],[39],[39]⟩,⟨[],[],[39],[39]⟩] λK z=>?_;refine ev ?_;refine⟨Wj _,by(try simp only[Dj,Bc,Ca]);unfold lim sm at*;omega,?_⟩;(try refine ev ?_);refine⟨Wj _,by(try simp only[Dj,B6,Bc,Ca]);unfold lim sm at*;omega,?_⟩;(try refine ev ?_);apply z;clear z K)
  rw[<-a4,<-a2]
  (refine A0.Lw 30 rfl ?_;refine A0.Lw 39 rfl (wk [(4,.box 4 0),(5,.box 5 0),(8,.box 8 0),(10,.box 10 0),(11,Cc NN),(12,Cm AA)] [(4,.cells ((Aj p).map .d)),(5,.cells (J1 s)),(8,.cells [.d .nil,.d .nil,.d (.bool false)]),(10,.cells (deS d))] ?_))
  refine sC a9 Lt ?_;refine sR Lt ?_;refine A0.pp 14 5 14 rfl<|kR Lt λK1 u1=>?_;refine A0.bb (A0.ii sc.vars (X:=Unit) (λj _=>[(4,.box 4 0),(5,.box 5 0),(8,.box 8 0),(10,.box 10 0),(11,Cc NN),(12,Cm AA),(13,.box 13 0),(14,.acc 14),(15,A5 j)])
   (λj _=>[(4,.cells ((Aj p).map .d)),(5,.cells (J1 s)),(8,.cells [.d .nil,.d .nil,.d (.bool false)]),(10,.cells (deS d)),(13,.cells ((Fw sc).map .d)),(14,.rows 5 (Av ((sc.vars.take j).map (Param.subst NN AA))))])
   (λ_ _=>True) () trivial sS (by simp[ble,A7,Aj,Fw,Av]) ?_ ?_)
  rotate_left
  .intro j _ v hv Z dp tk a6 _;have aa:=(Az.1 hv).1;have a0:=hS v.type (a1 v Z).type;rw[tk];refine sK λV u2=>?_
   (refine sQ Lt λK z=>?_;simp -implicitDefEqProofs only[EV,TFA,Nat.reduceEqDiff,reduceCtorEq,A9j,B2k,Sf,B8t,B8u,a6,Fw];apply z;clear z K)
   refine gI u2 ?_;clear u2 V;refine sK λV u2=>A0.bb ?_
   (refine sV Lt λK z=>?_;refine ci (Du hv) ?_;apply z;clear z K)
   refine sC a0 Lt ?_
   (refine lV Lt λK z=>?_;refine⟨by simp,by(try simp only[Bc,D4]);unfold lim sm at*;omega,?_⟩;(try refine ev ?_);apply z;clear z K;try simp only[A4,Ac])
   refine u2 _ _ ?_;clear u2 V;refine lT Lt ?_;exact⟨(),trivial,sS,by simp[ble,A7,Aj,Fw,Av,G9,Param.subst]⟩
  intro _ _;rw[Ci];refine sK λV u2=>?_
  (refine sQ Lt λK z=>?_;simp -implicitDefEqProofs only[EV,TFA,Nat.reduceEqDiff,reduceCtorEq,A9j,B2k,Sf,B8t,B8u,B3,Fw];apply z;clear z K)
  refine A0.ss rfl ?_;simp only[A4,Ac,Af];refine u1 _ _ ?_;clear u2 V u1 K1
  (refine A0.Lw 14 rfl (wk [(4,.box 4 0),(5,.box 5 0),(8,.box 8 0),(10,.box 10 0),(11,Cc NN),(12,Cm AA),(14,.d (.slice (Av (sc.vars.map (Param.subst NN AA)))))] [(4,.cells ((Aj p).map .d)),(5,.cells (J1 s)),(8,.cells [.d .nil,.d .nil,.d (.bool false)]),(10,.cells (deS d))] ?_))
  (refine sG Lt [] 8 [] λK z=>?_;refine ev ?_;refine cc hb ?_;refine cc hN ?_;apply z;clear z K)
  exact aR
def Jx(s:An)(l:List Ty):An:=l.foldl Gp s
def Mu(p:Prog)(x:Ty)(c:B9):Option A3:=if Fb (C7 p [] x) c.name<0 then none else match(C7 p [] x)[(Fb (C7 p [] x) c.name).toNat]? with
 |none=>none
 |some g=>if g.A1.length=c.targs.length/\Cv p [] x c.on=true then some g else none
def Wr(g:A3)(c:B9):List Ty:=g.params.map λq=>q.type.subst (Ad g.A1) c.targs
def Wg(g:A3)(c:B9):Ty:=g.result.subst (Ad g.A1) c.targs
def Kg(p:Prog)(x:Ty)(out:An)(c:B9):An:=match Mu p x c with
 |none=>out
 |some g=>Qs p (Gp (Jx out (Wr g c)) (Wg g c)) x c
def Qe(p:Prog)(s out:An)(x:Ty):An:=s.calls.foldl (Kg p x) (if Bh p x 1=true then Jx out ((Bx p x).map (·.type))else out)
def Kz(p:Prog)(s:An):An:=s.types.foldl (Qe p s) s
def C7w:∀(l:List Ty) {s:An},s.Sm->(∀t,t∈l->t.Sm)->(Jx s l).Sm
 |[],_,hs,_=>hs
 |t::l,_,hs,h=>C7w l (A1o hs (h t (by simp))) λu E=>h u (by simp[E])
def E8f{p:Prog}(h:p.Fit){x:Ty}(O:x.Sm){out:An}(U:out.Sm){c:B9}(L:c.Sm):(Kg p x out c).Sm:=by
 unfold Kg;split
 .exact U
 .rename_i g E;have I:g.Sm:=by
   unfold Mu at E;split at E
   .cases E
   .split at E
    .cases E
    .rename_i W J;split at E
     .cases E;exact A1g h.sm (by simp) O _ (C6 J)
     .cases E
  refine E9q h (A1o (C7w _ U λt ht=>?_) (I.result.subst L.targs.2)) O L;obtain⟨q,V,rfl⟩:=Au.1 ht;exact(I.params.2 q V).type.subst L.targs.2
def C6s{α:Type}{f:An->α->An}:∀(l:List α) {s:An},(∀s a,a∈l->s.Sm->(f s a).Sm)->s.Sm->(l.foldl f s).Sm
 |[],_,_,hs=>hs
 |a::l,_,h,hs=>C6s l (λs b E=>h s b (by simp[E])) (h _ a (by simp) hs)
def C9o{p:Prog}(h:p.Fit){s:An}(hs:s.Sm){x:Ty}(I:x.Sm){out:An}(J:out.Sm):(Qe p s out x).Sm:=by
 refine C6s _ (λU c O E=>E8f h I E (hs.calls.2 c O)) ?_;split
 .refine C7w _ J λt ht=>?_;obtain⟨f,L,rfl⟩:=Au.1 ht;exact(B1r h.sm I f L).type
 .exact J
def D1r{p:Prog}(h:p.Fit){s:An}(hs:s.Sm):(Kz p s).Sm:=C6s _ (λJ x I E=>C9o h hs (hs.types.2 x I) E) hs
abbrev z38:Aq:=.cells [.d .nil,.d .nil,.d (.bool false)]
abbrev Fs:List Nat:=[0,1,2,3,4,5,6,7,8,9,10,11,12,13,14,15,21,31,38,55,88,102]
def F0w(p:Prog)(h:p.Fit)(b0:p.Le)(b3:∀d,d∈p.decls->d.kind=3->d.body.Gz)(s:An)(hs:s.Sm):Aa Tryz.prog 25 [Ct p,Jh s] (Jh (Kz p s)):=by
 have b5:=hs.types.1;have b6:=hs.calls.1;generalize hR:Kz p s=R;unfold Kz at hR;refine cB func25 ?_;refine sR Fs ?_;refine sR Fs ?_;refine kR Fs λK1 u1=>?_;refine A0.bb (A0.ii s.types (X:=An) (λj out=>[(2,.box 2 0),(3,.box 3 0),(4,.box 4 0),(5,.box 5 0),(6,A5 j)]) (λj out=>[(2,.cells ((Aj p).map .d)),(3,.cells (J1 s)),(4,z38),(5,.cells (J1 out))])
  (λj out=>(s.types.drop j).foldl (Qe p s) out=R/\out.Sm) s ⟨hR,hs⟩ sS (by simp[ble,A7,Aj]) ?_ ?_)
 rotate_left
 .intro j out x aw ai dp tk az hI;obtain⟨hI,ho⟩:=hI;have hx:=hs.types.2 x ai;have b1:=C9o h hs hx ho;rw[dp,Lo]at hI;have a5:=A2u p x 1;have a9:=A5z p h.sm [] (by simp) (by simp) x hx;simp only[show Ag ([]:List Ah)=[] from rfl]at a9;have aq:=Wi h.sm [] x;have b4:=A1g h.sm (env:=[]) (by simp) hx;refine Ai az Fs λK2 u2=>?_;refine gI u2 ?_;clear u2 K2;refine sK λK2 u2=>A0.bb ?_
  (refine sV Fs λK z=>?_;refine ci (Et aw) ?_;apply z;clear z K)
  refine A0.C6v λK3 u3 ac=>?_;have key:∀o1:An,o1.Sm->s.calls.foldl (Kg p x) o1=Qe p s out x->K3 [(2,.box 2 0),(3,.box 3 0),(4,.box 4 0),(5,.box 5 0),(6,A5 j),(7,.box 7 0)] [(2,.cells ((Aj p).map .d)),(3,.cells (J1 s)),(4,z38),(5,.cells (J1 o1)),(7,.cells (Pa x))]:=by
   intro o1 b2 hT;refine u3 _ _ ?_;clear ac u3 K3;refine sC a9 Fs ?_;generalize ak:C7 p [] x=set at*;refine sR Fs ?_;refine A0.bb (A0.ii s.calls (X:=An) (λk o=>[(2,.box 2 0),(3,.box 3 0),(4,.box 4 0),(5,.box 5 0),(6,A5 j),(7,.box 7 0),(10,.d (.slice (B0 set))),(11,A5 k)])
    (λk o=>[(2,.cells ((Aj p).map .d)),(3,.cells (J1 s)),(4,z38),(5,.cells (J1 o)),(7,.cells (Pa x))])
    (λk o=>(s.calls.drop k).foldl (Kg p x) o=Qe p s out x/\o.Sm) o1 ⟨hT,b2⟩ sS (by simp[ble,A7,Aj]) ?_ ?_)
   .intro o I;obtain⟨I,ab⟩:=I;rw[Db,Vs]at I;subst I;refine sK λK4 u4=>?_
    (refine sQ Fs λK z=>?_;simp -implicitDefEqProofs only[EV,TFA,Nat.reduceEqDiff,reduceCtorEq,Jd,Pw,B3,L9];apply z;clear z K)
    refine A0.ss rfl ?_;simp only[A4,Ac,Af];refine u2 _ _ ?_;clear u4 K4 u2 K2;refine lT Fs ?_;exact⟨_,⟨hI,b1⟩,sS,by simp[ble,A7,Aj]⟩
   .intro k o c ax af a8 ao ah I;obtain⟨I,ab⟩:=I;rw[a8,Lo]at I;have hc:=hs.calls.2 c af;have U:=E8f h hx ab hc;have hf:=B1g set c.name aq;have a0:=A5w p h.sm [] (by simp) (by simp) x c.on hx hc.on;simp only[show Ag ([]:List Ah)=[] from rfl]at a0;have J:Mu p x c=if Fb set c.name<0 then none else match set[(Fb set c.name).toNat]? with
     |none=>none
     |some g=>if g.A1.length=c.targs.length/\Cv p [] x c.on=true then some g else none:=by unfold Mu;rw[ak]
    refine sK λK4 u4=>?_
    (refine sQ Fs λK z=>?_;simp -implicitDefEqProofs only[EV,TFA,Nat.reduceEqDiff,reduceCtorEq,Jd,Pw,ah,L9];apply z;clear z K)
    refine gI u4 ?_;clear u4 K4;refine A0.C6v λK4 u4 a4=>A0.bb ?_
    (refine sV Fs λK z=>?_;refine⟨by omega,_,J4 ax,rfl,?_⟩;(try simp -implicitDefEqProofs only[EV,TFA,Nat.reduceAdd,Nat.reduceEqDiff,Nat.reduceBEq,Nat.reduceLeDiff,reduceCtorEq,W4,H3]);apply z;clear z K)
    have skip:Mu p x c=none->K4 [(2,.box 2 0),(3,.box 3 0),(4,.box 4 0),(5,.box 5 0),(6,A5 j),(7,.box 7 0),(10,.d (.slice (B0 set))),(11,A5 k)] [(2,.cells ((Aj p).map .d)),(3,.cells (J1 s)),(4,z38),(5,.cells (J1 o)),(7,.cells (Pa x))]:=by
     intro hn;have ae:Kg p x o c=o:=by unfold Kg;rw[hn]
     rw[ae]at I U;refine u4 _ _<|lT Fs ?_;exact⟨o,⟨I,U⟩,sS,by simp[ble,A7,Aj]⟩
    unfold Fb at J;rcases N4 (λs:A3=>decide (s.name=c.name)) set with⟨h1,_⟩|⟨n,g,h1,h2,_⟩
    .rw[h1]at J hf;rw[A8 (by decide)]at J;refine sC hf Fs<|sK λK5 u5=>?_;refine dR Fs 19 ?_;refine A0.tt rfl (A0.xx ?_);simp only[A4,Ac,Af];exact a4 sS (by simp[ble,A7,Aj]) (skip J)
    have a7:¬(n:Int)<0:=by omega
    have a2:=b4 g (C6 h2);rw[h1]at J hf;rw[A6 a7,Je,h2]at J;simp only at J;by_cases am:g.A1.length=c.targs.length;rotate_left
    .rw[A6 λhh=>am hh.1]at J;have Z:¬(g.A1.length:Int)=(c.targs.length:Int):=by omega
     refine sC hf Fs<|sK λK5 u5=>?_
     (refine sG Fs [] 19 [] λK z=>?_;refine Ap a7 ?_;refine⟨by omega,_,D1 h2,rfl,?_⟩;(try refine Ap Z ?_);apply z;clear z K)
     refine A0.tt rfl (A0.xx ?_);simp only[A4,Ac,Af];exact a4 sS (by simp[ble,A7,Aj]) (skip J)
    have Z:(g.A1.length:Int)=(c.targs.length:Int):=by omega
    cases hb:Cv p [] x c.on with
    |false =>
     rw[hb]at a0;rw[A6 λhh=>by rw[hb]at hh;cases hh.2]at J;refine sC hf Fs<|sK λK5 u5=>?_
     (refine sG Fs [] 19 [] λK z=>?_;refine Ap a7 ?_;refine⟨by omega,_,D1 h2,rfl,?_⟩;(try refine Ap Z ?_);refine cc a0 ?_;apply z;clear z K)
     refine A0.tt rfl (A0.xx ?_);simp only[A4,Ac,Af];exact a4 sS (by simp[ble,A7,Aj]) (skip J)
    |true =>
     rw[hb]at a0;rw[A8 ⟨am,hb⟩]at J;clear skip;have ae:Kg p x o c=Qs p (Gp (Jx o (Wr g c)) (Wg g c)) x c:=by unfold Kg;rw[J]
     rw[ae]at I U;have aj:=R3 g.A1 a2.A1.1;rw[show g.A1.map (λx=>x.name)=Ad g.A1 from rfl]at aj;have b8:=a2.params.1;have aa:=λt ht=>Pm (Ad g.A1) c.targs hc.targs.2 t ht;have a':=a2.result.subst (vars:=Ad g.A1) hc.targs.2;refine sC hf Fs<|sK λK5 u5=>?_
     (refine sG Fs [] 19 [] λK z=>?_;refine Ap a7 ?_;refine⟨by omega,_,D1 h2,rfl,?_⟩;(try refine Ap Z ?_);refine cc a0 ?_;apply z;clear z K)
     refine kI u5 ?_;clear u5 K5
     (refine sV Fs λK z=>?_;refine ci (D1 h2) ?_;refine cc aj ?_;apply z;clear z K)
     refine kR Fs λK5 u5=>?_;refine A0.bb (A0.ii g.params (X:=An) (λi q=>[(2,.box 2 0),(3,.box 3 0),(4,.box 4 0),(5,.box 5 0),(6,A5 j),(7,.box 7 0),(10,.d (.slice (B0 set))),(11,A5 k),(12,.box 12 0),(13,A5 n),(14,Cc (Ad g.A1)),(15,A5 i)])
      (λi q=>[(2,.cells ((Aj p).map .d)),(3,.cells (J1 s)),(4,z38),(5,.cells (J1 q)),(7,.cells (Pa x)),(12,.cells (caS c))])
      (λi q=>Jx q ((g.params.drop i).map λq=>q.type.subst (Ad g.A1) c.targs)=Jx o (Wr g c)/\q.Sm) o ⟨rfl,ab⟩ sS (by simp[ble,A7,Aj]) ?_ ?_)
     rotate_left
     .intro i q v ad V L a6 a3 E;obtain⟨E,hq⟩:=E;have hv:=a2.params.2 v V;have ap:=aa v.type hv.type;have ag:=hv.type.subst (vars:=Ad g.A1) hc.targs.2;have O:=B0t q hq _ ag;have a1:=A1o hq ag;rw[L,Ck]at E;unfold Jx at E;rw[Lo]at E;generalize v.type.subst (Ad g.A1) c.targs=vt at*;generalize Gp q vt=q2 at*;refine sK λK6 W=>?_
      (refine sV Fs λK z=>?_;refine⟨by omega,_,D1 h2,rfl,?_⟩;(try refine Ap a3 ?_);apply z;clear z K)
      refine gI W ?_;clear W K6;refine sK λK6 W=>A0.bb ?_
      (refine lG Fs [] 14 [] λK z=>?_;refine ev ?_;refine ci (D1 h2) ?_;refine ci (Du ad) ?_;refine cc ap ?_;refine cc O ?_;apply z;clear z K;try simp only[A4,Ac])
      refine W _ _ ?_;clear W K6;refine lT Fs ?_;exact⟨q2,⟨E,a1⟩,sS,by simp[ble,A7,Aj]⟩
     intro q E;obtain⟨E,hq⟩:=E;rw[Db,G3]at E;rw[<-E]at I U;rw[show Jx q []=q from rfl]at I U;have O:=B0t q hq _ a';have a1:=A1o hq a';have ay:=aa g.result a2.result;unfold Wg at I U;generalize g.result.subst (Ad g.A1) c.targs=rt at*;have ar:=H0h p h b0 b3 _ a1 x hx c hc;generalize Gp q rt=q2 at*;generalize Qs p q2 x c=q3 at*;refine sK λK6 W=>?_
     (refine sV Fs λK z=>?_;refine⟨by omega,_,D1 h2,rfl,?_⟩;(try refine Ap B3 ?_);apply z;clear z K)
     refine A0.ss rfl ?_;simp only[A4,Ac,Af];refine u5 _ _ ?_;clear W K6 u5 K5
     (refine sG Fs [] 10 [] λK z=>?_;refine ev ?_;refine ci (D1 h2) ?_;refine cc ay ?_;refine cc O ?_;apply z;clear z K)
     (refine lV Fs λK z=>?_;refine cc ar ?_;apply z;clear z K;try simp only[A4,Ac])
     refine u4 _ _ ?_;clear a4 u4 K4;refine lT Fs ?_;exact⟨q3,⟨I,U⟩,sS,by simp[ble,A7,Aj]⟩
  cases hi:Bh p x 1 with
  |false =>
   rw[hi]at a5;have hT:s.calls.foldl (Kg p x) out=Qe p s out x:=by unfold Qe;rw[hi];rfl
   refine sC a5 Fs ?_;refine A0.ff rfl (A0.kk (ac sS (by simp[ble,A7,Aj]) (key out ho hT)))
  |true =>
   rw[hi]at a5;have hT:s.calls.foldl (Kg p x) (Jx out ((Bx p x).map (·.type)))=Qe p s out x:=by unfold Qe;rw[hi];rfl
   have av:=B5x p h.sm x hx hi;have b7:=B2x h.sm x;have au:=B1r h.sm hx;generalize Bx p x=fl at*;refine sC a5 Fs ?_;refine A0.tt rfl<|sC av Fs ?_;refine sR Fs ?_;refine A0.bb (A0.ii fl (X:=An) (λi q=>[(2,.box 2 0),(3,.box 3 0),(4,.box 4 0),(5,.box 5 0),(6,A5 j),(7,.box 7 0),(8,.d (.slice (Av fl))),(9,A5 i)])
    (λi q=>[(2,.cells ((Aj p).map .d)),(3,.cells (J1 s)),(4,z38),(5,.cells (J1 q)),(7,.cells (Pa x))])
    (λi q=>Jx q ((fl.drop i).map (·.type))=Jx out (fl.map (·.type))/\q.Sm) out ⟨rfl,ho⟩ sS (by simp[ble,A7,Aj]) ?_ ?_)
   rotate_left
   .intro i q v ad V L a6 a3 E;obtain⟨E,hq⟩:=E;have hv:=(au v V).type;have O:=B0t q hq _ hv;have a1:=A1o hq hv;rw[L,Ck]at E;unfold Jx at E;rw[Lo]at E;generalize Gp q v.type=q2 at*;refine Ai a3 Fs λK6 W=>?_;refine gI W ?_;clear W K6;refine sK λK6 W=>A0.bb ?_
    (refine lG Fs [] 6 [] λK z=>?_;refine ev ?_;refine ci (Du ad) ?_;refine cc O ?_;apply z;clear z K;try simp only[A4,Ac])
    refine W _ _ ?_;clear W K6;refine lT Fs ?_;exact⟨q2,⟨E,a1⟩,sS,by simp[ble,A7,Aj]⟩
   intro q E;obtain⟨E,hq⟩:=E;rw[Db,G3]at E;rw[<-E]at hT;refine Ai B3 Fs λK6 W=>?_;refine A0.ss rfl ?_;simp only[A4,Ac,Af];exact ac sS (by simp[ble,A7,Aj]) (key q hq hT)
 intro out hI;obtain⟨hI,_⟩:=hI;rw[Db,Vs]at hI;subst hI;refine Ai B3 Fs λK2 u2=>?_;refine A0.ss rfl ?_;simp only[A4,Ac,Af];refine u1 _ _<|sR Fs ?_;exact aR
abbrev Sz:An:=⟨[],[],false⟩
def Hx(p:Prog):Nat->An->Int->An × Bool
 |0,_,_=>(Sz,false)
 |k+1,s,n=>if n=Ey s then(if Uj s=true then(Sz,false)else(s,true))else if Uj s=true then(Sz,false)else Hx p k (Kz p s) (Ey s)
def Km(p:Prog):An × Bool:=Hx p 64 (Nc p Sz p.main []) (-1)
def D5v{α:Type}{cmp:α->α->Int}{x:α}:∀{l:List α} {done:Bool} {out R:List α},Fu cmp x l done out=some R->out.length+l.length<=R.length
 |[],done,out,R,h=>by rw[Fu]at h;cases h;cases done <;> simp
 |t::l,done,out,R,h=>by
  rw[Fu]at h;split at h
  .cases h
  split at h <;> (have:=D5v h;simp at this |-;omega)
def E4y{α:Type}{cmp:α->α->Int}{x:α}(l:List α):l.length<=(I6 cmp l x).length:=by
 unfold I6;cases h:Fu cmp x l false []with
 |none=>exact Bs _
 |some R=>have:=D5v h;simpa using this
def B1k(s:An)(x:Ty):Ey s<=Ey (Gp s x):=by
 unfold Gp;split
 .exact Bs _
 .have:=E4y (cmp:=E6) (x:=x) s.types;simp only[Ey];omega
def D7s(s:An)(x:B9):Ey s<=Ey (Gj s x):=by
 unfold Gj;split
 .exact Bs _
 .have:=E4y (cmp:=Dn) (x:=x) s.calls;simp only[Ey];omega
def B1h{α:Type}{f:An->α->An}(h:∀s a,Ey s<=Ey (f s a)):∀(l:List α)(s:An),Ey s<=Ey (l.foldl f s)
 |[],_=>Bs _
 |a::l,s=>Cp (h s a) (B1h h l _)
def G1p(p:Prog)(s:An)(e:Ex)(vars:List Param):Ey s<=Ey (Nc p s e vars):=by
 refine B1h (λs e=>?_) _ _;have E:∀z,Ey s<=Ey (T0 s e z):=λz=>by
  unfold T0;split
  .exact Bs _
  .exact Cp (show Ey s<=_ from B1k { s with D9:=s.D9 ||z.2.D9 } z.1) (D7s _ _)
 unfold Kv;split
 .exact B1k _ _
 split
 .split
  .exact Bs _
  .exact E _
 .exact Bs _
def D8v(s:An)(l:List Ty):Ey s<=Ey (Jx s l):=B1h B1k _ _
def F3a(p:Prog)(s:An):Ey s<=Ey (Kz p s):=by
 refine B1h (λo x=>?_) _ _;have E:Ey o<=Ey (if Bh p x 1=true then Jx o ((Bx p x).map (·.type))else o):=by
  split
  .exact D8v _ _
  .exact Bs _
 refine Cp E (B1h (λo c=>?_) _ _);unfold Kg;split
 .exact Bs _
 .rename_i g _;refine Cp (Cp (D8v o (Wr g c)) (B1k _ (Wg g c))) ?_;unfold Qs;split
  .exact Bs _
  split
  .exact Bs _
  .exact G1p _ _ _ _
def E2r{s:An}(h:Uj s=false):Ey s<=60:=by unfold Uj at h;simp only[An6,Z1]at h;omega
def D0b{p:Prog}(h:p.Fit):∀(k:Nat) {s:An} (n:Int),s.Sm->(Hx p k s n).1.Sm
 |0,_,_,_=>⟨by simp[Hx],by simp[Hx]⟩
 |k+1,s,n,hs=>by
  have E:An.Sm Sz:=⟨by simp,by simp⟩;rw[Hx];split
  .split
   .exact E
   .exact hs
  .split
   .exact E
   .exact D0b h k _ (D1r h hs)
def D7j{p:Prog}(h:p.Fit):(Nc p Sz p.main []).Sm:=C1p (vars:=[]) ⟨h.sm,by simp,by simp,by simp,by simp⟩ _ ⟨by simp,by simp⟩ λy I=>A8n (Q:=Ex.Sm) (λe h x E=>h.kids.2 x E) _ h.sm.main y I
def F9u{p:Prog}(h:p.Fit):(Km p).1.Sm:=D0b h _ _ (D7j h)
abbrev fiV(z:An × Bool):SV:=.tuple [Jh z.1,Aw z.2]
abbrev Rn:List Nat:=[0,1,2,3,4,5,14,16,24]
def G4q(p:Prog)(h:p.Fit)(L:p.Le)(a1:∀d,d∈p.decls->d.kind=3->d.body.Gz)(a0:p.main.Gz):Aa Tryz.prog 7 [Ct p] (fiV (Km p)):=by
 have a2:=D7j h;have hN:=E6j p [] ⟨h.sm,by simp,by simp,by simp,by simp⟩ Sz ⟨by simp,by simp⟩ p.main h.sm.main a0 (by have:=L.main.list;unfold sm;omega);simp only[show Av ([]:List Param)=[] from rfl]at hN;generalize hR:Km p=R;unfold Km at hR;generalize Nc p Sz p.main []=s0 at*;refine cB func7 ?_;refine sR Rn ?_;refine sC hN Rn ?_;refine kR Rn λK1 u1=>?_;refine A0.bb (A0.loop (X:=Nat × An × Int) (λz=>[(1,.box 1 0),(2,.box 2 0),(3,Aw false),(4,.box 4 0),(5,A5 z.2.2)]) (λz=>[(1,.cells ((Aj p).map .d)),(2,z38),(4,.cells (J1 z.2.1))])
  (λz=>Hx p z.1 z.2.1 z.2.2=R/\z.2.1.Sm/\z.2.2<=60/\(63:Int)<=z.1+z.2.2/\z.2.2<=Ey z.2.1) (λz=>z.1) (64,s0,-1)
  ⟨hR,a2,by simp only;omega,by simp only;omega,by simp only;omega⟩ sS (by simp[ble,A7,Aj]) ?_)
 rintro⟨k,s,n⟩ ⟨E,hs,a4,V,W⟩;simp only at E hs a4 V W |-;have hz:=E2f s hs;have I:=G1s s hs;have a3:=F0w p h L a1 s hs;have Z:=D1r h hs;have a6:=F3a p s;obtain⟨k',rfl⟩:∃k',k=k'+1:=⟨k - 1,by omega⟩;rw[Hx]at E;generalize a7:(Ey s:Nat)=zz at*;refine sK λO u2=>?_;by_cases U:n=(zz:Int)
 .rw[A8 U]at E;subst U;refine sC hz Rn ?_;refine A0.ss rfl ?_;simp only[A4,Ac,Af];refine u1 _ _ ?_;clear u1 K1 u2 O;refine sK λK1 u1=>?_;cases J:Uj s with
  |true =>rw[J]at I E;rw[A8 rfl]at E;subst E;refine sC I Rn ?_;refine tI ?_;refine sR Rn ?_;exact aR
  |false =>rw[J]at I E;rw[A6 (by simp)]at E;subst E;refine sC I Rn ?_;refine kI u1 ?_;clear u1 K1;refine sR Rn ?_;exact aR
 .rw[A6 U]at E
  (refine sV Rn λK z=>?_;refine⟨_,.inl ⟨_,rfl,hz,rfl⟩,?_⟩;(try refine Ap U ?_);apply z;clear z K)
  refine gI u2 ?_;clear u2 O;refine A0.bb<|sK λO u2=>?_;cases J:Uj s with
  |true =>rw[J]at I E;rw[A8 rfl]at E;subst E;refine sC I Rn ?_;refine tI ?_;refine sR Rn ?_;exact aR
  |false =>
   have a5:=E2r J;rw[J]at I E;rw[A6 (by simp)]at E;generalize Kz p s=s2 at*;refine sC I Rn ?_;refine kI u2 ?_;clear u2 O;refine sC hz Rn ?_
   (refine lV Rn λK z=>?_;refine cc a3 ?_;apply z;clear z K;try simp only[A4,Ac])
   exact⟨(k',s2,(zz:Int)),⟨E,Z,by simp only;omega,by simp only;omega,by simp only;omega⟩,by simp only;omega,sS,by simp[ble,A7,Aj]⟩
end Go.Abs
