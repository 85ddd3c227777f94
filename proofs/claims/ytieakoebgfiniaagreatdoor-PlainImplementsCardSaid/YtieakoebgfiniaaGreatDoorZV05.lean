/- step: selection, call, assertion; what a redex becomes -/
import Derived.Test.YtieakoebgfiniaaGreatDoorZS25
import Derived.Test.YtieakoebgfiniaaGreatDoorZS36
import Derived.Test.YtieakoebgfiniaaGreatDoorZAb21
set_option linter.all false
set_option maxHeartbeats 1000000
set_option maxRecDepth 100000
namespace Go.Abs
open Go Go.Proofs Tryz
def F0k(p:Prog)(e v:Ex):Ex × Int :=
 if Bh p v.type 1=true/\0<=Dr (λf:Param=>decide (f.name=e.name)) (Bx p v.type)/\Dr (λf:Param=>decide (f.name=e.name)) (Bx p v.type)<v.kids.length then
  ((v.kids[(Dr (λf:Param=>decide (f.name=e.name)) (Bx p v.type)).toNat]?).getD v,1)else(e,4)
def F5w(p:Prog)(e v:Ex):Ex × Int:=if Cv p [] v.type e.type=true then(v,1)else(e,3)
def F1a(e v:Ex)(d:Decl):Ex:=(d.body.subst (d.vars++Ad d.sig.A1) (v.type.args++e.targs)).Rv (d.recv::d.sig.params.map (·.name)) e.kids
def G4j(p:Prog)(e v:Ex):Ex × Int:=match Jr p v.type e.name with
 |none=>(e,4)
 |some d=>if d.sig.A1.length=e.targs.length/\d.sig.params.length+1=e.kids.length then(F1a e v d,1)else(e,4)
def B2x{p:Prog}(h:p.Sm)(x:Ty):(Bx p x).length<=sm:=by
 unfold Bx;split
 .rename_i E;obtain⟨d,hd,_⟩:=Mm (by decide) E;rw[hd,Dz];unfold fieldsD;rw[Bc];exact(h.decls.2 d (P9 hd)).fields.1
 .simp
mutual
def Ty.er:Ty->Ty
 |.mk n a _=>.mk n (Ty.erL a) 0
def Ty.erL:List Ty->List Ty
 |[]=>[]
 |t::E=>t.er::Ty.erL E
end
def E7u:∀l:List Ty,Ty.erL l=l.map Ty.er
 |[]=>by rw[Ty.erL];rfl
 |t::l=>by rw[Ty.erL,E7u l];rfl
theorem Ht(t:Ty):t.er=.mk t.name (t.args.map Ty.er) 0:=by cases t with|mk n a p=>rw[Ty.er,E7u];rfl
theorem Qj(n:A2)(a:List Ty)(p:Int):(Ty.mk n a p).name=n:=rfl
theorem Hs(n:A2)(a:List Ty)(p:Int):(Ty.mk n a p).args=a:=rfl
def mkQ(n:A2)(a:List Ty)(p:Int):(Ty.mk n a p).pos=p:=rfl
def A9z(t:Ty):t.er.name=t.name:=by rw[Ht];rfl
def B7q(t:Ty):t.er.args=t.args.map Ty.er:=by rw[Ht];rfl
def E4a:∀l m:List Ty,(∀t,t∈l->∀u,E6 t u=0↔t.er=u.er)->(E8 l m=0↔l.map Ty.er=m.map Ty.er)
 |[],[],_=>by simp[E8]
 |[],_::_,_=>by simp[E8]
 |_::_,[],_=>by simp[E8]
 |x::xs,y::ys,h=>by
  have I:=h x (by simp) y;have J:=E4a xs ys λt ht=>h t (by simp[ht]);rw[E8];by_cases E:E6 x y=0
  .rw[A6 (by simp[E]),J];simp[I.1 E]
  .rw[A8 E];have:¬x.er=y.er:=λL=>E (I.2 L);simp[E,this]
theorem Tn(t:Ty):∀u,E6 t u=0↔t.er=u.er:=by
 induction t using Ty.induct with
 |h t J =>
 intro u;have I:=E4a t.args u.args J;rw[A1b,Ht t,Ht u];by_cases E:t.name=u.name
 .rw[A6 (by simp[Se.2 E]),I];simp[E]
 .have:¬Bt t.name u.name=0:=λL=>E (Se.1 L);rw[A8 this];simp[this,E]
def Sx(t u:Ty):Pn t u=true↔t.er=u.er:=by unfold Pn;rw[Dp];exact Tn t u
def Ah.er(f:Ah):Ah:=⟨f.name,f.bound.er,0⟩
def Param.er(f:Param):Param:=⟨f.name,f.type.er,0⟩
def A3.er(s:A3):A3:=⟨s.name,s.A1.map Ah.er,s.params.map Param.er,s.result.er,0⟩
def F5k(a b:Ah):S4 a b=true↔a.er=b.er:=by unfold S4 Ah.er;rw[Bb,Sx,Dp,Ah.mk.injEq];simp
def F5a(a b:Param):Rx a b=true↔a.er=b.er:=by unfold Rx Param.er;rw[Bb,Sx,Dp,Param.mk.injEq];simp
def C3z{α β:Type}{p:α->α->Bool}{e:α->β}(h:∀a b,p a b=true↔e a=e b):∀l m:List α,Fi p l m=true↔l.map e=m.map e
 |[],[]=>by simp[Fi]
 |[],_::_=>by simp[Fi]
 |_::_,[]=>by simp[Fi]
 |x::xs,y::ys=>by rw[Fi,Bb,h,C3z h xs ys];simp
def E2c(a b:A3):Nr a b=true↔a.er=b.er:=by unfold Nr A3.er;rw[Bb,Bb,Bb,Sx,Dp,C3z F5k,C3z F5a,A3.mk.injEq];simp[and_assoc]
theorem Ik(vars:List A2)(args:List Ty)(t:Ty):(t.subst vars args).er=t.er.subst vars (args.map Ty.er):=by
 induction t using Ty.induct with
 |h t J =>
 rw[Wo,Wo vars (args.map Ty.er) t.er,A9z,B7q,Bc,Bc];by_cases E:t.args.length=0/\0<=D5 t.name vars 0/\D5 t.name vars 0<args.length
 .have I:(D5 t.name vars 0).toNat<args.length:=by omega
  rw[A8 E,A8 E,Ht,Qj,Hs];rw[Df,Bi I,Ez,Dz,Dz];generalize args[(D5 t.name vars 0).toNat]=u;rw[Ht u,Ht t];rfl
 .rw[A6 E,A6 E,Ht,Qj,Hs,Ff,Ff];rw[Ht t,mkQ]
  congr 1
  refine Ie λu L=>?_;exact J u L
def F2i(vars:List A2)(args:List Ty)(f:Ah):(f.subst vars args).er=f.er.subst vars (args.map Ty.er):=by simp only[Ah.subst,Ah.er,Ik]
theorem D7n(vars:List A2)(args:List Ty)(f:Param):(f.subst vars args).er=f.er.subst vars (args.map Ty.er):=by simp only[Param.subst,Param.er,Ik]
theorem C2m(vars:List A2)(args:List Ty)(s:A3):(s.subst vars args).er=s.er.subst vars (args.map Ty.er):=by simp only[A3.subst,A3.er,Ik,Ff,A3.mk.injEq,Sn,Qi];exact⟨Ie λu _=>F2i vars args u,Ie λu _=>D7n vars args u⟩
theorem X5(l:List Ah):Ad (l.map Ah.er)=Ad l:=by simp only[Ad,Ff];rfl
def C4c(n:Nat):(D8 n).map Ty.er=D8 n:=by simp only[D8,Ff];refine Ie λi _=>?_;simp only[Function.comp,U7];rw[Ht];rfl
def B5z(s:A3):s.canon.er=s.er.canon:=by
 simp only[A3.canon,A3.er,A3.mk.injEq,Qi,Sn];refine⟨?_,?_,?_⟩
 .refine Ld λi=>?_;simp only[Ha,Df,Sd,X5,Bc];cases s.A1[i]? with
  |none=>rfl
  |some f=>simp only[Ez,Ah.er,Ik,C4c]
 .refine Ld λi=>?_;simp only[It,Df,Sd,X5,Bc];cases s.params[i]? with
  |none=>rfl
  |some f=>simp only[Ez,Param.er,Ik,C4c]
 .rw[Ik,C4c,X5,Bc]
theorem A2k{l:List A3}(E:(l.map (·.name)).Nodup){s t:A3}(hs:s∈l)(ht:t∈l)(h:s.name=t.name):s=t:=by
 induction l with
 |nil=>simp at hs
 |cons x l L =>
  rw[Ck,Ao3]at E;rcases B1.1 hs with J|hs1
  .rcases B1.1 ht with I|ht1
   .rw[J,I]
   .exact absurd (show x.name∈l.map (·.name) from Au.2 ⟨t,ht1,by rw[<-h,J]⟩) E.1
  .rcases B1.1 ht with I|ht1
   .exact absurd (show x.name∈l.map (·.name) from Au.2 ⟨s,hs1,by rw[h,I]⟩) E.1
   .exact L E.2 hs1 ht1
def F1j{l:List A3}(Z:(l.map (·.name)).Nodup)(w:A3):A8j l w=false↔∃s,s∈l/\s.name=w.name/\s.canon.er=w.canon.er:=by
 unfold A8j Fb;rcases N4 (λs:A3=>decide (s.name=w.name)) l with⟨J,I⟩|⟨j,x,J,I,V⟩
 .rw[J,A8 (by decide)];constructor
  .intro h;cases h
  .rintro⟨s,hs,L,_⟩;have:=I s hs;simp[L]at this
 .rw[J,A6 (by omega),Je,I,Dz];have O:=C6 I;have E:x.name=w.name:=by simpa using V
  constructor
  .intro h;refine⟨x,O,E,(E2c _ _).1 ?_⟩;cases U:Nr x.canon w.canon with
   |true=>rfl
   |false=>rw[U]at h;cases h
  .rintro⟨s,hs,L,W⟩;obtain rfl:=A2k Z hs O (L.trans E.symm);rw[(E2c _ _).2 W];rfl
def F5q{l:List A3}(E:(l.map (·.name)).Nodup)(m:List A3):Iu l m=[]↔∀w,w∈m->∃s,s∈l/\s.name=w.name/\s.canon.er=w.canon.er:=by unfold Iu;rw[Ar0,List.filter_eq_nil_iff];refine forall_congr' λw=>forall_congr' λ_=>?_;rw[<-F1j E w];simp
def G2w{l m:List A3}(h:l.map A3.er=m.map A3.er):∀w,w∈m->∃s,s∈l/\s.name=w.name/\s.canon.er=w.canon.er:=by
 intro w I;have:w.er∈l.map A3.er:=by rw[h];exact Au.2 ⟨w,I,rfl⟩
 obtain⟨s,hs,E⟩:=Au.1 this;refine⟨s,hs,?_,by rw[B5z,B5z,E]⟩;have:s.er.name=w.er.name:=by rw[E]
 exact this
theorem A5t{x y:Ty}(h:x.er=y.er):x.name=y.name/\x.args.map Ty.er=y.args.map Ty.er/\x.args.length=y.args.length:=by
 have I:x.er.name=y.er.name:=by rw[h]
 have E:x.er.args=y.er.args:=by rw[h]
 rw[A9z,A9z]at I;rw[B7q,B7q]at E;exact⟨I,E,by have:=Gi List.length E;simpa using this⟩
def G5e{env:List Ah}{x y:Ty}(h:x.er=y.er):Ep env x=Ep env y:=by obtain⟨I,_,E⟩:=A5t h;unfold Ep;rw[I,E]
theorem B9q{env:List Ah}{x y:Ty}(h:x.er=y.er):Cs env x=Cs env y:=by unfold Cs;rw[G5e h]
theorem A4m{p:Prog}{x y:Ty}{k:Int}(h:x.er=y.er):Bh p x k=Bh p y k:=by obtain⟨I,_,E⟩:=A5t h;unfold Bh;rw[I,E]
def H1u{p:Prog}{env:List Ah}{x y:Ty}(h:x.er=y.er):isIface p env x=isIface p env y:=by unfold isIface;rw[A4m h,B9q h]
def G9t{vars:List A2}{a b:List Ty}(h:a.map Ty.er=b.map Ty.er)(l:List A3)(j:Nat):(Hn vars a l j).map A3.er=(Hn vars b l j).map A3.er:=by unfold Hn;rw[Ff,Ff];refine Ie λs _=>?_;simp only[Function.comp,C2m,h]
def G6o{p:Prog}{x y:Ty}(h:x.er=y.er):(Gs p x).map A3.er=(Gs p y).map A3.er:=by
 obtain⟨I,E,_⟩:=A5t h;unfold Gs;rw[A4m h,I];split
 .exact G9t E _ _
 .rfl
def H1t{p:Prog}{x y:Ty}(h:x.er=y.er):Ii p x=Ii p y:=by obtain⟨I,_,E⟩:=A5t h;funext d i;unfold Ii Kb;rw[A4m h,I,E]
def F8h{p:Prog}{x y:Ty}(h:x.er=y.er)(j:Nat):(Gk p x j).map A3.er=(Gk p y j).map A3.er:=by unfold Gk;rw[H1t h,Ff,Ff];refine Ie λs _=>?_;simp only[Function.comp,C2m,(A5t h).2.1]
def B5e{p:Prog}{env:List Ah}{x y:Ty}(h:x.er=y.er):(Cw p env x).map A3.er=(Cw p env y).map A3.er:=by
 unfold Cw;rw[B9q h];cases Cs env y with
 |some b=>rfl
 |none =>
  simp only[Xa,Sk,I0,Fx];rw[A4m h];split
  .exact G6o h
  .exact F8h h _
theorem A8b(p:Prog)(env:List Ah)(x:Ty):((Cw p env x).map (·.name)).Nodup:=by
 unfold Cw;split
 .exact B8o p _
 .split
  .simp
  .exact(B7b p _ _ (Bs _)).1
def B9w(p:Prog)(env:List Ah)(x:Ty):((C7 p env x).map (·.name)).Nodup :=
 (((Z3 (Cw p env x)).map _).nodup_iff).2 (A8b p env x)
theorem Nt{p:Prog}{env:List Ah}{x:Ty}{s:A3}:s∈C7 p env x↔s∈Cw p env x:=(Z3 _).mem_iff
def A4f{p:Prog}{env:List Ah}{x y:Ty}:Iu (C7 p env x) (C7 p env y)=[]↔∀w,w∈Cw p env y->∃s,s∈Cw p env x/\s.name=w.name/\s.canon.er=w.canon.er:=by rw[F5q (B9w p env x)];simp only[Nt]
theorem C5e(p:Prog)(env:List Ah)(x:Ty):Cv p env x x=true:=by
 unfold Cv;split
 .rw[Dp,A4f];exact λw E=>⟨w,E,rfl,rfl⟩
 .exact(Sx x x).2 rfl
def X7{p:Prog}{env:List Ah}{x y z:Ty}(E:Cv p env x y=true)(I:Cv p env y z=true):Cv p env x z=true:=by
 unfold Cv at*;by_cases O:isIface p env z=true
 .rw[A8 O]at I |-;rw[Dp,A4f]at I |-;have L:∀w,w∈Cw p env y->∃s,s∈Cw p env x/\s.name=w.name/\s.canon.er=w.canon.er:=by
   by_cases J:isIface p env y=true
   .rw[A8 J,Dp,A4f]at E;exact E
   .rw[A6 J,Sx]at E;exact G2w (B5e E)
  intro w hw;obtain⟨s,hs,Z,W⟩:=I w hw;obtain⟨r,hr,V,U⟩:=L s hs;exact⟨r,hr,V.trans Z,U.trans W⟩
 .rw[A6 O,Sx]at I |-;have J:¬isIface p env y=true:=by rw[H1u I];exact O
  rw[A6 J,Sx]at E;exact E.trans I
theorem D8z(l:List Ah)(nm:A2):(D5 nm (Ad l) 0 = -1)\/∃(k:Nat)(f:Ah),l[k]?=some f/\f.name=nm/\D5 nm (Ad l) 0=(k:Int):=by
 rcases A3o nm (Ad l) 0 with⟨h,_⟩|⟨k,E,I⟩
 .exact .inl h
 .unfold Ad at E;rw[Df,Jv]at E;obtain⟨f,J,L⟩:=E;exact .inr ⟨k,f,J,L,by rw[I];simp⟩
def E8s(p:Prog)(e:Ex):Ex × Int:=if e.kind=3 then(e,2)else match e.kids[0]? with
 |none=>(e,4)
 |some v=>if e.kind=2 then G4j p e v else if e.kind=4 then F0k p e v else if e.kind=5 then F5w p e v else(e,4)
mutual
def B9x(p:Prog):Ex->Ex × Int
 |.mk k n t a ks q=>match D6f p ks with
  |some (E,o)=>if o=1 then(.mk k n t a E q,1)else(.mk k n t a ks q,o)
  |none=>E8s p (.mk k n t a ks q)
def D6f(p:Prog):List Ex->Option (List Ex × Int)
 |[]=>none
 |k::ks=>if isVal k=true then(D6f p ks).map λr=>(k::r.1,r.2)else some ((B9x p k).1::ks,(B9x p k).2)
end
def C9i(p:Prog):Nat->Ex->Prop
 |0,e=>e.Sm
 |n+1,e=>e.Sm/\((B9x p e).2=1->C9i p n (B9x p e).1)
def C9i.sm{p:Prog}:∀{n:Nat} {e:Ex},C9i p n e->e.Sm
 |0,_,h=>h
 |_+1,_,h=>h.1
def Decl.B4n(d:Decl):Bool:=decide (d.recv=[]) && (decide (d.vars.length=0) && (Nr d.sig Io && A8a d.body Uu))
def Decl.T2(d:Decl):Bool:=if d.kind=3 then isName d.recv && (decide ((d.A1.length:Int)+(d.fields.length:Int)+(d.sigs.length:Int)=0) && (d.sig.right && d.body.right))
 else d.B4n && ((decide (d.kind=1) && decide (d.sigs.length=0)) ||(decide (d.kind=2) && decide (d.fields.length=0)))
def Decl.right(d:Decl):Bool:=isName d.name && (Pr d.A1 && (Mb d.fields && (d.sigs.all A3.right && (d.vars.all isName && d.T2))))
structure Decl.Ln(d:Decl):Prop where
 A1:d.A1.length<=sm
 fields:d.fields.length<=sm
 sigs:d.sigs.length<=3*sm
 vars:d.vars.length<=sm
 none:¬d.kind=3->d.sig.Lm/\d.body.Lm
def Decl.Sm.ln{d:Decl}(h:d.Sm):d.Ln:=⟨h.A1.1,h.fields.1,by have:=h.sigs.1;omega,h.vars.1,λ_=>⟨h.sig.lm,h.body.lm⟩⟩
abbrev Gf:List Nat:=[0,1,2,3,4,5,21,26,35,40,49,52]
set_option maxHeartbeats 4000000 in
def G6i(d:Decl)(h:d.Ln)(hn:d.Nn):Aa prog 49 [Ia d] (Aw d.right):=by
 have I:=X3 d.name;have h2:=E2v d.A1 hn.A1;have J:=E1v d.fields hn.fields;have a8:=h.A1;have a7:=h.fields;have a5:=h.sigs;have a6:=h.vars;unfold Decl.right;refine cB func49 ?_;refine sR Gf ?_
 (refine A0.zz 1 rfl rfl (wk [(1,.A9 (Ar d) 0)] [] ?_))
 refine sK λV u1=>?_;rcases Eu (isName d.name)with b1|b1
 rotate_left
 .rw[b1]at I;rw[b1,C3];refine sC I Gf ?_;refine tI ?_;refine sR Gf ?_;exact aR
 rcases Eu (Pr d.A1)with b2|b2;rotate_left
 .rw[b1]at I;rw[b2]at h2;rw[b1,b2,C3,Cj]
  (refine sV Gf λK z=>?_;refine cc I ?_;refine cc h2 ?_;apply z;clear z K)
  refine tI ?_;refine sR Gf ?_;exact aR
 rcases Eu (Mb d.fields)with b3|b3;rotate_left
 .rw[b1]at I;rw[b2]at h2;rw[b3]at J;rw[b1,b2,b3,C3,Cj,Cj]
  (refine sV Gf λK z=>?_;refine cc I ?_;refine cc h2 ?_;refine cc J ?_;apply z;clear z K)
  refine tI ?_;refine sR Gf ?_;exact aR
 rw[b1]at I;rw[b2]at h2;rw[b3]at J;rw[b1,b2,b3,Cj,Cj,Cj]at u1 |-
 (refine sV Gf λK z=>?_;refine cc I ?_;refine cc h2 ?_;refine cc J ?_;apply z;clear z K)
 refine kI u1 ?_;clear u1 V I h2 J b1 b2 b3;refine kR Gf λV u1=>?_;refine A0.bb (A0.ii d.sigs (X:=Unit) (λj _=>[(1,.A9 (Ar d) 0),(3,A5 j)]) (λ_ _=>[])
  (λj _=>(d.sigs.drop j).all A3.right=d.sigs.all A3.right) () rfl (by simp[sle,Ay,Ae,Ar]) sB ?_ ?_)
 rotate_left
 .intro j _ s hd Z dp tk a0 E;rw[dp,Qv]at E;refine Ai a0 Gf λL u2=>?_;refine gI u2 ?_;clear u2 L;refine sK λL u2=>A0.bb ?_
  (refine sV Gf λK z=>?_;refine ci (D1 hd) ?_;refine cc (D9f s (hn.sigs s Z)) ?_;apply z;clear z K)
  refine A0.cond rfl (λO=>?_) (λO=>?_)
  .refine sR Gf ?_;simp only[Js]at O;rw[O,C3]at E;rw[<-E,C3];exact aR
  simp only[S7]at O;rw[O,Cj]at E;refine A0.kk (u2 _ _ ?_);clear u2 L;refine lT Gf ?_;exact⟨(),E,(by simp[sle,Ay,Ae,Ar]),sB⟩
 intro _ E;rw[Db,Ap8]at E;rw[<-E,Cj]at u1 |-;clear E;refine Ai B3 Gf λL u2=>?_;refine A0.ss rfl ?_;simp only[A4,Ac,Af];refine u1 _ _ ?_;clear u2 L u1 V;refine kR Gf λV u1=>?_;refine A0.bb (A0.ii d.vars (X:=Unit) (λj _=>[(1,.A9 (Ar d) 0),(4,A5 j)]) (λ_ _=>[])
  (λj _=>(d.vars.drop j).all isName=d.vars.all isName) () rfl (by simp[sle,Ay,Ae,Ar]) sB ?_ ?_)
 rotate_left
 .intro j _ s hd Z dp tk a0 E;rw[dp,Qv]at E;refine Ai a0 Gf λL u2=>?_;refine gI u2 ?_;clear u2 L;refine sK λL u2=>A0.bb ?_
  (refine sV Gf λK z=>?_;refine ci (Ko hd) ?_;refine cc (X3 s) ?_;apply z;clear z K)
  refine A0.cond rfl (λO=>?_) (λO=>?_)
  .refine sR Gf ?_;simp only[Js]at O;rw[O,C3]at E;rw[<-E,C3];exact aR
  simp only[S7]at O;rw[O,Cj]at E;refine A0.kk (u2 _ _ ?_);clear u2 L;refine lT Gf ?_;exact⟨(),E,(by simp[sle,Ay,Ae,Ar]),sB⟩
 intro _ E;rw[Db,Ap8]at E;rw[<-E,Cj]at u1 |-;clear E;refine Ai B3 Gf λL u2=>?_;refine A0.ss rfl ?_;simp only[A4,Ac,Af];refine u1 _ _ ?_;clear u2 L u1 V;unfold Decl.T2;by_cases k3:d.kind=3
 .rw[A8 k3];refine sK λV u1=>?_;have I:=X3 d.recv;have J:=D9f d.sig hn.sig;have h4:=E0g d.body hn.body;refine Ak k3 Gf ?_;refine tI ?_;rcases Eu (isName d.recv)with b1|b1
  rotate_left
  .rw[b1]at I;rw[b1,C3];refine sC I Gf ?_;exact aR
  rw[b1]at I;rw[b1,Cj];by_cases U:(d.A1.length:Int)+(d.fields.length:Int)+(d.sigs.length:Int)=0;rotate_left
  .rw[C9 U,C3]
   (refine sV Gf λK z=>?_;refine⟨_,.inl ⟨_,rfl,I,rfl⟩,?_⟩;(try refine Ap U ?_);refine⟨by first| (unfold B4;omega)| (simp only[B4,sm]at*;omega),?_⟩;(try refine Ap U ?_);refine⟨by first| (unfold B4;omega)| (simp only[B4,sm]at*;omega),?_⟩;(try refine Ap U ?_);apply z;clear z K)
   exact aR
  rw[Bj U,Cj];rcases Eu d.sig.right with b3|b3
  rotate_left
  .rw[b3]at J;rw[b3,C3]
   (refine sV Gf λK z=>?_;refine⟨_,.inl ⟨_,rfl,I,rfl⟩,?_⟩;(try refine Ap U ?_);refine⟨by first| (unfold B4;omega)| (simp only[B4,sm,lim]at*;omega),?_⟩;(try refine Ap U ?_);refine⟨by first| (unfold B4;omega)| (simp only[B4,sm,lim]at*;omega),?_⟩;(try refine Ap U ?_);refine cc J ?_;apply z;clear z K)
   exact aR
  rw[b3]at J;rw[b3,Cj]
  (refine sV Gf λK z=>?_;refine⟨_,.inl ⟨_,rfl,I,rfl⟩,?_⟩;(try refine Ap U ?_);refine⟨by first| (unfold B4;omega)| (simp only[B4,sm,lim]at*;omega),?_⟩;(try refine Ap U ?_);refine⟨by first| (unfold B4;omega)| (simp only[B4,sm,lim]at*;omega),?_⟩;(try refine Ap U ?_);refine cc J ?_;refine cc h4 ?_;apply z;clear z K)
  exact aR
 rw[A6 k3];refine Ai k3 Gf λV u1=>?_;refine kI u1 ?_;clear u1 V;refine sK λV u1=>?_;have rest:∀sl bx,sle sl [(1,.A9 (Ar d) 0),(5,Aw d.B4n)]->V sl bx:=by
  intro sl bx a2;refine u1 _ _ (A0.ww (bx':=[]) a2 trivial ?_);clear u1 V;rcases Eu d.B4n with b|b
  rotate_left
  .rw[b,C3];refine sR Gf ?_;exact aR
  rw[b,Cj];by_cases k1:d.kind=1
  .have k2:¬d.kind=2:=by omega
   rw[Bj k1,Cj,C9 k2,C3,Ar2];by_cases hs:d.sigs.length=0
   .have a1:(d.sigs.length:Int)=0:=by omega
    rw[Bj hs];refine Ei k1 a1 Gf ?_;exact aR
   .have a1:¬(d.sigs.length:Int)=0:=by omega
    have a3:¬(1:Int)=2:=by omega
    rw[C9 hs];refine sR3 k1 a1 a3 Gf ?_;exact aR
  rw[C9 k1,C3,V8];by_cases k2:d.kind=2
  .rw[Bj k2,Cj];have a4:¬(2:Int)=1:=by omega
   have e:decide (d.fields.length=0)=decide ((d.fields.length:Int)=0):=by
    by_cases hf:d.fields.length=0
    .rw[Bj hf,Bj (by omega)]
    .rw[C9 hf,C9 (by omega)]
   rw[e];refine Ei k2 a4 Gf ?_;exact aR
  .rw[C9 k2,C3];refine Ei k1 k2 Gf ?_;exact aR
 have J:=E3b d.sig Io (h.none k3).1;have h4:=G0c d.body (h.none k3).2 Uu;unfold Decl.B4n at rest;by_cases hr:d.recv=[];rotate_left
 .rw[C9 hr,C3]at rest
  (refine lQ Gf λK z=>?_;refine Ap hr ?_;apply z;clear z K;try simp only[A4,])
  exact rest _ _ (by simp[sle,Ay,Ae,Ar])
 have br:decide (d.recv=[])=true:=Bj hr;rw[br,Cj]at rest;by_cases hv:d.vars.length=0;rotate_left
 .have W:¬(d.vars.length:Int)=0:=by omega
  rw[C9 hv,C3]at rest
  (refine lQ Gf λK z=>?_;refine Fm br W ?_;apply z;clear z K;try simp only[A4,])
  exact rest _ _ (by simp[sle,Ay,Ae,Ar])
 have W:(d.vars.length:Int)=0:=by omega
 rw[Bj hv,Cj]at rest;rcases Eu (Nr d.sig Io)with b3|b3
 rotate_left
 .rw[b3]at J rest;rw[C3]at rest
  (refine lQ Gf λK z=>?_;refine Fm br W ?_;refine cc J ?_;apply z;clear z K;try simp only[A4,])
  exact rest _ _ (by simp[sle,Ay,Ae,Ar])
 rw[b3]at J rest;rw[Cj]at rest
 (refine lQ Gf λK z=>?_;refine Fm br W ?_;refine cc J ?_;refine cc h4 ?_;apply z;clear z K;try simp only[A4,])
 exact rest _ _ (by simp[sle,Ay,Ae,Ar])
def Prog.right(p:Prog):Bool:=p.decls.all Decl.right && p.main.right
abbrev q2S:List Nat:=[0,1,2,3,8,17]
def H4c(p:Prog)(V:p.decls.length<=100000000000)(h:∀d,d∈p.decls->d.Ln)(U:p.Nn):Aa prog 19 [Ct p] (Aw p.right):=by
 have W:=E0g p.main U.main;unfold Prog.right;refine cB func19 ?_;refine sR q2S ?_
 (refine A0.zz 1 rfl rfl (wk [(1,.A9 (Aj p) 0)] [] ?_))
 refine kR q2S λK1 u1=>?_;refine A0.bb (A0.ii p.decls (X:=Unit) (λj _=>[(1,.A9 (Aj p) 0),(3,A5 j)]) (λ_ _=>[])
  (λj _=>(p.decls.drop j).all Decl.right=p.decls.all Decl.right) () rfl (by simp[sle,Ay,Ae,Aj]) sB ?_ ?_)
 rotate_left
 .intro j _ s hd I Z tk O E;rw[Z,Qv]at E;refine Ai O q2S λL u2=>?_;refine gI u2 ?_;clear u2 L;refine sK λL u2=>A0.bb ?_
  (refine sV q2S λK z=>?_;refine ci (Dx hd) ?_;refine cc (G6i s (h s I) (U.decls s I)) ?_;apply z;clear z K)
  refine A0.cond rfl (λJ=>?_) (λJ=>?_)
  .refine sR q2S ?_;simp only[Js]at J;rw[J,C3]at E;rw[<-E,C3];exact aR
  simp only[S7]at J;rw[J,Cj]at E;refine A0.kk (u2 _ _ ?_);clear u2 L
  (refine lV q2S λK z=>?_;refine cl ?_;apply z;clear z K;try simp only[A4,])
  exact⟨(),E,(by simp[sle,Ay,Ae,Aj]),sB⟩
 intro _ E;rw[Db,Ap8]at E;rw[<-E,Cj]at u1 |-;clear E;refine Ai B3 q2S λL u2=>?_;refine A0.ss rfl ?_;simp only[A4,Ac,Af];refine u1 _ _<|sC W q2S ?_;exact aR
def F4h(p:Prog)(h:p.Sm)(E:p.Nn):Aa prog 19 [Ct p] (Aw p.right):=H4c p (Cp h.decls.1 (by decide)) (λd hd=>(h.decls.2 d hd).ln) E
structure F8 where
 pos:Int
 bad:Bool
 D9:Bool
def Pc:F8:=⟨0,false,false⟩
def La(n:Int):F8:=⟨n,true,false⟩
def Hr:Option Int->F8
 |none=>Pc
 |some q=>La q
abbrev Kp(r:F8):SV:=.agg [.d (.int .i64 r.pos),.d (.bool r.bad),.d (.bool r.D9)]
abbrev I5:Aq:=.cells [.d (.int .i64 0),.d (.bool false),.d (.bool false)]
def C4y(a b:List Ah)(I:a.length<=sm)(E:b.length<=sm):Aa prog 271 [.d (.slice (Ag a)),.d (.slice (Ag b))] (.d (.slice (Ag (a++b)))):=by
 rw[show Ag (a++b)=Ag a++Ag b by simp[Ag]];refine cB func271 ?_;refine sR [0,1,4] ?_
 (refine A0.D7 [0,1,4,5] [5] (by decide +kernel) λK z=>?_;refine ev ?_;refine⟨B9z _,by unfold lim sm at*;omega,?_⟩;(try refine ev ?_);refine⟨B9z _,by unfold lim sm at*;omega,?_⟩;(try refine ev ?_);apply z;clear z K)
 exact aR
def A3p(p:Prog)(pre:List Ah):List Ah->Option Int
 |[]=>none
 |f::fs=>if kindOf p f.name≠0\/f.name∈Ad pre then some f.pos else A3p p (pre++[f]) fs
def A2h(p:Prog)(all:List Ah):List Ah->Option Int
 |[]=>none
 |f::fs=>match Bk p all f.bound with
  |some q=>some q
  |none=>if isIface p all f.bound=true then A2h p all fs else some f.bound.pos
def Sj(p:Prog)(env l:List Ah):Option Int:=match A3p p env l with
 |some q=>some q
 |none=>A2h p (env++l) l
abbrev J7:List Nat:=[0,1,2,3,6,7,8,9,10,11,12,16,41,54,68,79]
def C9k(p:Prog)(h:p.Sm)(env l:List Ah)(a2:env.length+l.length<=sm)(he:∀f,f∈env->f.Sm)(hl:∀f,f∈l->f.Sm) :
  Aa prog 190 [Ct p,.d (.slice (Ag env)),.d (.slice (Ag l))] (Kp (Hr (Sj p env l))):=by
 have Z:∀f,f∈env++l->f.Sm:=λf hf=>by
  rcases Bz.1 hf with h|h
  .exact he f h
  .exact hl f h
 have a0:=C4y env l (by omega) (by omega);unfold Sj;refine cB func190 ?_;refine sR J7 ?_
 (refine A0.zz 3 rfl rfl (wk [(1,.d (.slice (Ag env))),(2,.d (.slice (Ag l))),(3,.A9 (Aj p) 0),(6,.box 6 0)] [(6,I5)] ?_))
 refine kR J7 λK1 u1=>?_;refine A0.bb (A0.ii l (X:=Unit) (λj _=>[(1,.d (.slice (Ag env))),(2,.d (.slice (Ag l))),(3,.A9 (Aj p) 0),(6,.box 6 0),(7,A5 j)]) (λ_ _=>[(6,I5)])
  (λj _=>A3p p (env++l.take j) (l.drop j)=A3p p env l) () (by simp) (by simp[sle,Ay,Ae,Aj]) sB ?_ ?_)
 rotate_left
 .intro j _ d hd U dp tk V E;rw[dp,A3p]at E;have hj:Aa prog 271 [.d (.slice (Ag env)),.d (.slice ((Ag l).take j))] (.d (.slice (Ag (env++l.take j)))):=by
   rw[show(Ag l).take j=Ag (l.take j) by simp[Ag,List.map_take]];exact C4y env (l.take j) (by omega) (by rw[D4];omega)
  have a1:=R3 (env++l.take j) (by rw[B6,D4];omega);have hk:=B0d p d.name;have L:=A6y (Ad (env++l.take j)) d.name;refine Ai V J7 λJ u2=>?_;refine gI u2 ?_;clear u2 J;refine sK λJ u2=>A0.bb ?_
  (refine sV J7 λK z=>?_;refine⟨B9z _,by omega,by omega,?_⟩;(try refine ev ?_);refine cc hj ?_;refine cc a1 ?_;apply z;clear z K)
  by_cases I:kindOf p d.name=0;rotate_left
  .rw[A8 (.inl I)]at E;rw[<-E]
   (refine sG J7 [] 15 [] λK z=>?_;refine ev ?_;refine ci (F4 hd) ?_;refine⟨_,.inl ⟨_,rfl,hk,rfl⟩,?_⟩;(try refine Ap I ?_);apply z;clear z K)
   refine A0.tt rfl ?_
   (refine sV J7 λK z=>?_;refine ci (F4 hd) ?_;apply z;clear z K)
   exact aR
  by_cases hm:d.name∈Ad (env++l.take j)
  .rw[A8 (.inr hm)]at E;rw[<-E];rw[Bj hm]at L
   (refine sG J7 [] 15 [] λK z=>?_;refine ev ?_;refine ci (F4 hd) ?_;refine⟨_,.inl ⟨_,rfl,hk,rfl⟩,?_⟩;(try refine Ap I ?_);refine ci (F4 hd) ?_;refine cc L ?_;apply z;clear z K)
   refine A0.tt rfl ?_
   (refine sV J7 λK z=>?_;refine ci (F4 hd) ?_;apply z;clear z K)
   exact aR
  rw[A6 (by rintro(h|h);exact h I;exact hm h)]at E;rw[C9 hm]at L
  (refine sG J7 [] 15 [] λK z=>?_;refine ev ?_;refine ci (F4 hd) ?_;refine⟨_,.inl ⟨_,rfl,hk,rfl⟩,?_⟩;(try refine Ap I ?_);refine ci (F4 hd) ?_;refine cc L ?_;apply z;clear z K)
  refine A0.ff rfl (A0.kk (u2 _ _ ?_));clear u2 J;refine lT J7 ?_;exact⟨(),by rw[tk,<-Ga];exact E,(by simp[sle,Ay,Ae,Aj]),sB⟩
 intro _ E;rw[Db,A3p]at E;rw[<-E]at u1 |-;simp only;clear E;refine Ai B3 J7 λJ u2=>?_;refine A0.ss rfl ?_;simp only[A4,Ac,Af];refine u1 _ _ ?_;clear u2 J u1 K1;refine sC a0 J7 ?_;refine kR J7 λK1 u1=>?_;refine A0.bb (A0.ii l (X:=Unit) (λj _=>[(2,.d (.slice (Ag l))),(3,.A9 (Aj p) 0),(6,.box 6 0),(9,.d (.slice (Ag (env++l)))),(10,A5 j)]) (λ_ _=>[(6,I5)])
  (λj _=>A2h p (env++l) (l.drop j)=A2h p (env++l) l) () rfl (by simp[sle,Ay,Ae,Aj]) sB ?_ ?_)
 rotate_left
 .intro j _ d hd U dp tk V E;rw[dp,A2h]at E;have W:=A8p p h (env++l) (by rw[B6];omega) Z d.bound (hl d U).bound;have O:=D7p p (env++l) (by rw[B6];omega) d.bound;refine Ai V J7 λJ u2=>?_;refine gI u2 ?_;clear u2 J;refine sK λJ u2=>A0.bb ?_;cases hq:Bk p (env++l) d.bound with
  |some q =>
   rw[hq]at E W;simp only[Tw]at W;rw[<-E]
   (refine sG J7 [] 12 [] λK z=>?_;refine ev ?_;refine ci (F4 hd) ?_;refine cc W ?_;apply z;clear z K)
   refine kR J7 λK3 u3=>?_;refine tI ?_;refine sR J7 ?_;exact aR
  |none =>
   rw[hq]at E W;simp only[Tw]at W;simp only at E
   (refine sG J7 [] 12 [] λK z=>?_;refine ev ?_;refine ci (F4 hd) ?_;refine cc W ?_;apply z;clear z K)
   refine kR J7 λK3 u3=>?_;refine kI u3 ?_;clear u3 K3;rcases Eu (isIface p (env++l) d.bound)with hb|hb
   .rw[A8 hb]at E;rw[hb]at O
    (refine sG J7 [] 7 [] λK z=>?_;refine ev ?_;refine ci (F4 hd) ?_;refine cc O ?_;apply z;clear z K)
    refine A0.ff rfl (A0.kk (u2 _ _ ?_));clear u2 J;refine lT J7 ?_;exact⟨(),E,(by simp[sle,Ay,Ae,Aj]),sB⟩
   .rw[A6 (by simp[hb])]at E;rw[<-E];rw[hb]at O
    (refine sG J7 [] 7 [] λK z=>?_;refine ev ?_;refine ci (F4 hd) ?_;refine cc O ?_;apply z;clear z K)
    refine A0.tt rfl ?_
    (refine sV J7 λK z=>?_;refine ci (F4 hd) ?_;apply z;clear z K)
    exact aR
 intro _ E;rw[Db,A2h]at E;rw[<-E]at u1 |-;clear E;refine Ai B3 J7 λJ u2=>?_;refine A0.ss rfl ?_;simp only[A4,Ac,Af];refine u1 _ _<|sR J7 ?_;exact aR
def Np(p:Prog)(env:List Ah)(pre:List A2):List Param->Option Int
 |[]=>none
 |f::fs=>if f.name∈pre then some f.pos else match Bk p env f.type with
  |some q=>some q
  |none=>Np p env (pre++[f.name]) fs
abbrev Q2:List Nat:=[0,1,2,3,6,7,8,9,10,14,23,49]
def E5q(p:Prog)(h:p.Sm)(env:List Ah)(W:env.length<=sm)(he:∀f,f∈env->f.Sm)(l:List Param)(a0:l.length<=sm)(hl:∀f,f∈l->f.Sm) :
  Aa prog 191 [Ct p,.d (.slice (Ag env)),.d (.slice (Av l))] (Kp (Hr (Np p env [] l))):=by
 refine cB func191 ?_;refine sR Q2 ?_
 (refine A0.zz 3 rfl rfl (wk [(1,.d (.slice (Ag env))),(2,.d (.slice (Av l))),(3,.A9 (Aj p) 0),(6,.box 6 0)] [(6,I5)] ?_))
 refine sR Q2 ?_;refine A0.pp 7 1 7 rfl<|kR Q2 λK1 u1=>?_;refine A0.bb (A0.ii l (X:=Unit) (λj _=>[(1,.d (.slice (Ag env))),(2,.d (.slice (Av l))),(3,.A9 (Aj p) 0),(6,.box 6 0),(7,.acc 7),(8,A5 j)]) (λj _=>[(6,I5),(7,.rows 1 (Bq ((l.take j).map (·.name))))])
  (λj _=>Np p env ((l.take j).map (·.name)) (l.drop j)=Np p env [] l) () rfl (by simp[sle,Ay,Ae,Aj]) (by simp[ble,A7,Bq]) ?_ ?_)
 rotate_left
 .intro j _ d hd L dp tk V E;rw[dp,Np]at E;have I:=A6y ((l.take j).map (·.name)) d.name;have J:=A8p p h env W he d.type (hl d L).type;refine Ai V Q2 λU u2=>?_;refine gI u2 ?_;clear u2 U;refine sK λU u2=>A0.bb<|sK λK3 Z=>?_;by_cases O:d.name∈(l.take j).map (·.name)
  .rw[A8 O]at E;rw[<-E];rw[Bj O]at I
   (refine sV Q2 λK z=>?_;refine ci (Du hd) ?_;refine⟨_,.inr ⟨_,rfl,I,rfl⟩,?_⟩;(try refine ev ?_);apply z;clear z K)
   refine tI ?_
   (refine sV Q2 λK z=>?_;refine ci (Du hd) ?_;apply z;clear z K)
   exact aR
  rw[A6 O]at E;rw[C9 O]at I
  (refine sV Q2 λK z=>?_;refine ci (Du hd) ?_;refine⟨_,.inr ⟨_,rfl,I,rfl⟩,?_⟩;(try refine ev ?_);apply z;clear z K)
  refine kI Z ?_;clear Z K3
  (refine sV Q2 λK z=>?_;refine ci (Du hd) ?_;refine⟨by simp,by simp only[Bc,D4];unfold lim sm at*;omega,?_⟩;(try refine ev ?_);apply z;clear z K)
  cases hq:Bk p env d.type with
  |some q =>
   rw[hq]at E J;simp only[Tw]at J;rw[<-E]
   (refine sG Q2 [] 12 [] λK z=>?_;refine ev ?_;refine ci (Du hd) ?_;refine cc J ?_;apply z;clear z K)
   refine sR Q2 ?_;refine A0.tt rfl<|sR Q2 ?_;exact aR
  |none =>
   rw[hq]at E J;simp only[Tw]at J;simp only at E
   (refine sG Q2 [] 12 [] λK z=>?_;refine ev ?_;refine ci (Du hd) ?_;refine cc J ?_;apply z;clear z K)
   refine sR Q2 ?_;refine A0.ff rfl (A0.kk (u2 _ _ ?_));clear u2 U;refine lT Q2 ?_;exact⟨(),by rw[tk,G0];exact E,(by simp[sle,Ay,Ae,Aj]),by rw[tk,G0];simp[ble,A7,Bq]⟩
 intro _ E;rw[Db,Np]at E;rw[<-E]at u1 |-;clear E;refine Ai B3 Q2 λU u2=>?_;refine A0.ss rfl ?_;simp only[A4,Ac,Af];refine u1 _ _<|sR Q2 ?_;exact aR
def Mt(p:Prog)(env:List Ah)(s:A3):Option Int:=match Sj p env s.A1 with
 |some q=>some q
 |none=>match Np p (env++s.A1) [] s.params with
  |some q=>some q
  |none=>Bk p (env++s.A1) s.result
abbrev Lp:List Nat:=[0,1,2,3,5,6,7,8,9,10,22,29,39]
def E3c(p:Prog)(h:p.Sm)(env:List Ah)(s:A3)(V:env.length+s.A1.length<=sm)(he:∀f,f∈env->f.Sm)(hs:s.Sm) :
  Aa prog 194 [Ct p,.d (.slice (Ag env)),Cy s] (Kp (Hr (Mt p env s))):=by
 have J:∀f,f∈env++s.A1->f.Sm:=λf I=>by
  rcases Bz.1 I with h|h
  .exact he f h
  .exact hs.A1.2 f h
 have U:(env++s.A1).length<=sm:=by rw[B6];exact V
 have O:=C4y env s.A1 (by omega) (by omega);have W:=C9k p h env s.A1 V he hs.A1.2;have h2:=E5q p h (env++s.A1) U J s.params hs.params.1 hs.params.2;have h3:=A8p p h (env++s.A1) U J s.result hs.result;generalize hR:Mt p env s=R;refine cB func194 ?_;refine sR Lp ?_;cases I:Sj p env s.A1 with
 |some q =>
  rw[I]at W;obtain rfl:R=some q:=by rw[<-hR];unfold Mt;rw[I]
  refine sC W Lp ?_;refine sC O Lp ?_;refine kR Lp λE u1=>?_;refine A0.ff rfl (A0.kk (u1 _ _ ?_));clear u1 E;refine kR Lp λE u1=>?_;refine tI ?_;refine sR Lp ?_;exact aR
 |none =>
  rw[I]at W;refine sC W Lp ?_;refine sC O Lp ?_;refine kR Lp λE u1=>?_;cases L:Np p (env++s.A1) [] s.params with
  |some q =>
   rw[L]at h2;obtain rfl:R=some q:=by rw[<-hR];unfold Mt;rw[I];simp only[L]
   refine A0.tt rfl ?_
   (refine lV Lp λK z=>?_;refine cc h2 ?_;apply z;clear z K;try simp only[A4,])
   refine u1 _ _ ?_;clear u1 E;refine kR Lp λE u1=>?_;refine tI ?_;refine sR Lp ?_;exact aR
  |none =>
   rw[L]at h2;refine A0.tt rfl ?_
   (refine lV Lp λK z=>?_;refine cc h2 ?_;apply z;clear z K;try simp only[A4,])
   refine u1 _ _ ?_;clear u1 E;refine kR Lp λE u1=>?_;refine kI u1 ?_;clear u1 E;cases Z:Bk p (env++s.A1) s.result with
   |some q =>
    rw[Z]at h3;obtain rfl:R=some q:=by rw[<-hR];unfold Mt;rw[I];simp only[L,Z]
    refine sC h3 Lp ?_;refine kR Lp λE u1=>?_;refine tI ?_;refine sR Lp ?_;exact aR
   |none =>
    rw[Z]at h3;obtain rfl:R=none:=by rw[<-hR];unfold Mt;rw[I];simp only[L,Z]
    refine sC h3 Lp ?_;refine kR Lp λE u1=>?_;refine kI u1 ?_;refine sR Lp ?_;exact aR
structure Cf where
 p:Prog
 strict:Bool
 env:List Ah
 vars:List Param
def ty0:Ty:=.mk [] [] 0
def Ks(n:Int):Ty × F8:=(ty0,La n)
def Rm(z:Ty × F8):Ty × F8:=if z.2.bad=false/\400<z.1.count 0 then(ty0,⟨0,true,true⟩)else z
def Ju(c:Cf)(x:Ty):Bool:=decide (Ep c.env x<0) && Bh c.p x 1
def A1h(c:Cf)(x:Ty):Bool:=decide (0<=Ep c.env x) ||Bh c.p x 2
def Uw(c:Cf)(E:Ty)(e:Ex)(z:Ty × F8):F8:=if z.2.bad=false/\Cv c.p c.env z.1 E=false then La e.pos else z.2
def Kf(c:Cf):List Ty->List Ex->List (Ty × F8)->F8
 |w::I,e::es,z::E=>if(Uw c w e z).bad=true then Uw c w e z else Kf c I es E
 |_,_,_=>Pc
def Pp(c:Cf)(e:Ex)(x:Ty):Int ⊕ A3 :=
 match(C7 c.p c.env x)[(Fb (C7 c.p c.env x) e.name).toNat]? with
 |none=>.inl e.pos
 |some s=>if Fb (C7 c.p c.env x) e.name<0\/s.A1.length≠e.targs.length then .inl e.pos else
  match N7 c.p c.env e.targs with
  |some q=>.inl q
  |none=>if 0<=H5 c.p c.env s.A1 e.targs then .inl ((e.targs[(H5 c.p c.env s.A1 e.targs).toNat]?).getD default).pos else
   if e.kids.length≠s.params.length+1 then .inl e.pos else .inr s
def Xq(s:A3)(a:List Ty):List Ty:=s.params.map λf=>f.type.subst (Ad s.A1) a
def A5g(c:Cf)(e:Ex)(x:Ty)(E:List (Ty × F8)):Ty × F8:=match Pp c e x with
 |.inl q=>Ks q
 |.inr s=>Rm (s.result.subst (Ad s.A1) e.targs,Kf c (Xq s e.targs) e.kids.tail E)
def Hj(l:List Param)(nm:A2):Int:=Dr (λf:Param=>decide (f.name=nm)) l
def Zy(c:Cf)(e:Ex)(x:Ty)(r:F8):Ty × F8 :=
 if Ju c x=false then Ks e.pos else
 match(Bx c.p x)[(Hj (Bx c.p x) e.name).toNat]? with
 |some f=>if Hj (Bx c.p x) e.name<0 then Ks e.pos else Rm (f.type,r)
 |none=>Ks e.pos
def A0x(c:Cf)(x:Ty):Ty:=(Cs c.env x).getD x
def Sq(c:Cf)(x y:Ty):Bool:=A1h c x && (A1h c y ||Cv c.p c.env y (A0x c x))
def B4m(c:Cf)(e:Ex)(x:Ty)(r:F8):Ty × F8:=match Bk c.p c.env e.type with
 |some q=>Ks q
 |none=>if c.strict=true/\Sq c x e.type=false then Ks e.pos else(e.type,r)
def A3y(c:Cf)(e:Ex):Ty × F8:=match c.vars[(Hj c.vars e.name).toNat]? with
 |some f=>if Hj c.vars e.name<0 then Ks e.pos else(f.type,Pc)
 |none=>Ks e.pos
def B4x(c:Cf)(e:Ex)(E:List (Ty × F8)):Ty × F8:=match Bk c.p c.env e.type with
 |some q=>Ks q
 |none=>if Ju c e.type=false\/(Bx c.p e.type).length≠e.kids.length then Ks e.pos else(e.type,Kf c ((Bx c.p e.type).map (·.type)) e.kids E)
def A3b(c:Cf)(e:Ex)(E:List (Ty × F8)):Ty × F8 :=
 if e.kind=1 then A3y c e else if e.kind=3 then B4x c e E else
 if e.kind≠2/\e.kind≠4/\e.kind≠5 then Ks e.pos else
 match E with
 |[]=>Ks e.pos
 |z::E=>if z.2.bad=true then z else if e.kind=2 then A5g c e z.1 E else if e.kind=4 then Zy c e z.1 z.2 else B4m c e z.1 z.2
mutual
def Dk(c:Cf):Ex->Ty × F8
 |.mk k n t a ks q=>A3b c (.mk k n t a ks q) (B9t c ks)
def B9t(c:Cf):List Ex->List (Ty × F8)
 |[]=>[]
 |e::es=>Dk c e::B9t c es
end
def E5d(c:Cf):∀l,B9t c l=l.map (Dk c)
 |[]=>by rfl
 |e::es=>by rw[B9t,E5d c es];rfl
def B6z(c:Cf)(e:Ex):Dk c e=A3b c e (e.kids.map (Dk c)):=by cases e with|mk k n t a ks q=>rw[Dk,E5d];rfl
abbrev TO:=Ty × Option Int
def Kq(n:Int):TO:=(ty0,some n)
def C0x(c:Cf)(E:Ty)(e:Ex)(z:TO):Option Int:=match z.2 with
 |some q=>some q
 |none=>if Cv c.p c.env z.1 E=true then none else some e.pos
def U2(c:Cf):List Ty->List Ex->List TO->Option Int
 |w::I,e::es,z::E=>match C0x c w e z with
  |some q=>some q
  |none=>U2 c I es E
 |_,_,_=>none
def orI(o:Option Int)(t:Ty):TO:=match o with
 |some q=>Kq q
 |none=>(t,none)
def C5n(c:Cf)(e:Ex)(x:Ty)(E:List TO):TO:=match Pp c e x with
 |.inl q=>Kq q
 |.inr s=>orI (U2 c (Xq s e.targs) e.kids.tail E) (s.result.subst (Ad s.A1) e.targs)
def C3i(c:Cf)(e:Ex)(x:Ty):TO :=
 if Ju c x=false then Kq e.pos else
 match(Bx c.p x)[(Hj (Bx c.p x) e.name).toNat]? with
 |some f=>if Hj (Bx c.p x) e.name<0 then Kq e.pos else(f.type,none)
 |none=>Kq e.pos
def C6r(c:Cf)(e:Ex)(x:Ty):TO:=match Bk c.p c.env e.type with
 |some q=>Kq q
 |none=>if c.strict=true/\Sq c x e.type=false then Kq e.pos else(e.type,none)
def C6p(c:Cf)(e:Ex):TO:=match c.vars[(Hj c.vars e.name).toNat]? with
 |some f=>if Hj c.vars e.name<0 then Kq e.pos else(f.type,none)
 |none=>Kq e.pos
def C2e(c:Cf)(e:Ex)(E:List TO):TO:=match Bk c.p c.env e.type with
 |some q=>Kq q
 |none=>if Ju c e.type=false\/(Bx c.p e.type).length≠e.kids.length then Kq e.pos else orI (U2 c ((Bx c.p e.type).map (·.type)) e.kids E) e.type
def B8q(c:Cf)(e:Ex)(E:List TO):TO :=
 if e.kind=1 then C6p c e else if e.kind=3 then C2e c e E else
 if e.kind≠2/\e.kind≠4/\e.kind≠5 then Kq e.pos else
 match E with
 |[]=>Kq e.pos
 |z::E=>match z.2 with
  |some q=>Kq q
  |none=>if e.kind=2 then C5n c e z.1 E else if e.kind=4 then C3i c e z.1 else C6r c e z.1
mutual
def Eh(c:Cf):Ex->TO
 |.mk k n t a ks q=>B8q c (.mk k n t a ks q) (B8h c ks)
def B8h(c:Cf):List Ex->List TO
 |[]=>[]
 |e::es=>Eh c e::B8h c es
end
def E3p(c:Cf):∀l,B8h c l=l.map (Eh c)
 |[]=>by rfl
 |e::es=>by rw[B8h,E3p c es];rfl
def E0q(c:Cf)(e:Ex):Eh c e=B8q c e (e.kids.map (Eh c)):=by cases e with|mk k n t a ks q=>rw[Eh,E3p];rfl
def B5a(a:Ty × F8)(b:TO):Prop:=a.2.D9=true/\a.2.bad=true\/a.2.D9=false/\(a.2.bad=true/\b.2=some a.2.pos\/a.2.bad=false/\a.2.pos=0/\b=(a.1,none))
def B5a.no(n:Int):B5a (Ks n) (Kq n):=.inr ⟨rfl,.inl ⟨rfl,rfl⟩⟩
def C1q{c:Cf}:∀(I:List Ty)(es:List Ex)(E:List (Ty × F8))(ys:List TO),E.length=ys.length->(∀(i:Nat)(z:Ty × F8)(y:TO),E[i]?=some z->ys[i]?=some y->B5a z y) ->
  (Kf c I es E).D9=true/\(Kf c I es E).bad=true\/(Kf c I es E).D9=false/\((Kf c I es E).bad=true/\U2 c I es ys=some (Kf c I es E).pos\/(Kf c I es E).bad=false/\(Kf c I es E).pos=0/\U2 c I es ys=none)
 |[],es,E,ys,_,_=>by grind[Kf,U2,Pc]
 |_::_,[],E,ys,_,_=>by grind[Kf,U2,Pc]
 |_::_,_::_,[],[],_,_=>by simp[Kf,U2,Pc]
 |_::_,_::_,[],_::_,h,_=>by grind
 |_::_,_::_,_::_,[],h,_=>by grind
 |w::I,e::es,z::E,y::ys,hl,h=>by
  have W:=h 0 z y rfl rfl;have Z:=C1q (c:=c) I es E ys (by grind) λi a b L J=>h (i+1) a b (by grind) (by grind);rw[Kf,U2];unfold Uw C0x;rcases W with⟨L,J⟩|⟨L,⟨J,V⟩|⟨J,V,O⟩⟩
  .grind
  .grind
  .subst O;cases U:Cv c.p c.env z.1 w with
   |false=>simp[J,U,La]
   |true=>grind
def F2y(c:Cf):∀e:Ex,B5a (Dk c e) (Eh c e):=by
 intro e
 induction e using Ex.induct with|_ e W=>?_
 rw[B6z,E0q];unfold A3b B8q;by_cases k1:e.kind=1
 .rw[A8 k1,A8 k1];unfold A3y C6p;split
  .split
   .exact .no _
   .exact .inr ⟨rfl,.inr ⟨rfl,rfl,rfl⟩⟩
  .exact .no _
 rw[A6 k1,A6 k1];have V:∀(l:List Ex),(∀x,x∈l->x∈e.kids)->∀(i:Nat) z y,(l.map (Dk c))[i]?=some z->(l.map (Eh c))[i]?=some y->B5a z y:=by intro l hl i z y I E;rw[Df,Jv]at I E;obtain⟨a,ha,rfl⟩:=I;obtain⟨b,Z,rfl⟩:=E;rw[ha]at Z;cases Z;exact W a (hl a (C6 ha))
 by_cases k3:e.kind=3
 .rw[A8 k3,A8 k3];unfold B4x C2e;split
  .exact .no _
  .split
   .exact .no _
   .rcases C1q (c:=c) ((Bx c.p e.type).map (·.type)) e.kids _ _ (by simp) (V e.kids λ_ h=>h)with⟨I,E⟩|⟨I,⟨E,J⟩|⟨E,J,L⟩⟩
    .exact .inl ⟨I,E⟩
    .exact .inr ⟨I,.inl ⟨E,by rw[J];rfl⟩⟩
    .exact .inr ⟨I,.inr ⟨E,J,by rw[L];rfl⟩⟩
 rw[A6 k3,A6 k3];by_cases k2:e.kind≠2/\e.kind≠4/\e.kind≠5
 .rw[A8 k2,A8 k2];exact .no _
 rw[A6 k2,A6 k2];cases a0:e.kids with
 |nil=>exact .no _
 |cons v vs =>
  simp;have hv:=W v (by grind);rcases hv with⟨I,E⟩|⟨I,⟨E,J⟩|⟨E,J,L⟩⟩
  .rw[A8 E];exact .inl ⟨I,E⟩
  .rw[A8 E,J];exact .inr ⟨I,.inl ⟨E,rfl⟩⟩
  .have hz:(Dk c v).2=Pc:=by
    cases hr:(Dk c v).2 with|mk a b d=>rw[hr]at I E J;simp only at I E J;rw[I,E,J];rfl
   rw[A6 (by grind),L,hz];simp only;by_cases U:e.kind=2
   .rw[A8 U,A8 U];unfold A5g C5n;split
    .exact .no _
    .rename_i s hs;rcases C1q (c:=c) (Xq s e.targs) e.kids.tail _ _ (by simp) (V vs λx hx=>by grind)with⟨I,E⟩|⟨I,⟨E,J⟩|⟨E,J,L⟩⟩
     .unfold Rm;rw[A6 (by grind)];exact .inl ⟨I,E⟩
     .unfold Rm;rw[A6 (by grind),J];exact .inr ⟨I,.inl ⟨E,rfl⟩⟩
     .rw[L];unfold Rm;split
      .exact .inl ⟨rfl,rfl⟩
      .exact .inr ⟨I,.inr ⟨E,J,rfl⟩⟩
   rw[A6 U,A6 U];by_cases O:e.kind=4
   .rw[A8 O,A8 O];unfold Zy C3i;split
    .exact .no _
    .split
     .split
      .exact .no _
      .unfold Rm;split
       .exact .inl ⟨rfl,rfl⟩
       .exact .inr ⟨rfl,.inr ⟨rfl,rfl,rfl⟩⟩
     .exact .no _
   .rw[A6 O,A6 O];unfold B4m C6r;split
    .exact .no _
    .split
     .exact .no _
     .exact .inr ⟨rfl,.inr ⟨rfl,rfl,rfl⟩⟩
def C8z{c:Cf}{e:Ex}(h:(Dk c e).2.bad=false):Eh c e=((Dk c e).1,none):=by
 rcases F2y c e with⟨_,E⟩|⟨_,⟨E,_⟩|⟨_,_,I⟩⟩
 all_goals grind
def H6(l:List A2):List Ty:=l.map λv=>.mk v [] 0
def Hf(p:Prog)(d:Decl):List Ah:=((Em p d.name).zip d.vars).map λz=>⟨z.2,z.1.bound.subst (Ad (Em p d.name)) (H6 d.vars),z.1.pos⟩
def X0(p:Prog)(env:List Ah)(pre:List A2):List A3->Option Int
 |[]=>none
 |s::ss=>if s.name∈pre then some s.pos else match Mt p env s with
  |some q=>some q
  |none=>X0 p env (pre++[s.name]) ss
def B3a(p:Prog)(i:Nat)(d:Decl):Option Int :=
 if findD d.name p.decls 0≠(i:Int)then some d.pos else
 match Sj p [] d.A1 with
 |some q=>some q
 |none=>if d.kind=1 then(match Np p d.A1 [] d.fields with
   |some q=>some q
   |none=>if d.name∈A8k p d.name then some d.pos else none)else X0 p d.A1 [] d.sigs
def A0e(p:Prog)(pre:List A2):List A2->Bool
 |[]=>false
 |v::vs=>decide (kindOf p v≠0\/v∈pre) ||A0e p (pre++[v]) vs
def D7y(d:Decl):Option Int->Option Int
 |some q=>some q
 |none=>(d.sig.params.find? λf=>decide (f.name=d.recv)).map (·.pos)
def B1t(p:Prog)(i:Nat)(d:Decl):Option Int :=
 if kindOf p d.name≠1\/d.vars.length≠(Em p d.name).length then some d.pos else
 if A0e p [] d.vars=true then some d.pos else
 if N1 p d.name d.sig.name≠(i:Int)then some d.pos else
 D7y d (Mt p (Hf p d) d.sig)
def Xo(p:Prog)(i:Nat)(d:Decl):Option Int:=if d.kind=1\/d.kind=2 then B3a p i d else if d.kind=3 then B1t p i d else some d.pos
def B0g(d:Decl):Ty:=.mk d.name (H6 d.vars) 0
def Na(p:Prog)(st:Bool)(d:Decl):Cf:=⟨p,st,Hf p d++d.sig.A1,⟨d.recv,B0g d,0⟩::d.sig.params⟩
def A1u(p:Prog)(st:Bool)(d:Decl):F8:=if d.kind=3 then Uw (Na p st d) d.sig.result d.body (Dk (Na p st d) d.body)else Pc
def Zg(p:Prog)(st:Bool):List Decl->Nat->F8
 |[],_=>(Dk ⟨p,st,[],[]⟩ p.main).2
 |d::ds,i=>match Xo p i d with
  |some q=>La q
  |none=>if(A1u p st d).bad=true then A1u p st d else Zg p st ds (i+1)
def A4y(p:Prog)(st:Bool):F8:=Zg p st p.decls 0
def E1y{p:Prog}{st:Bool}:∀{l:List Decl} {i:Nat},(Zg p st l i).bad=false->∀(k:Nat)(d:Decl),l[k]?=some d->Xo p (i+k) d=none/\(A1u p st d).bad=false
 |[],_,_=>by simp
 |x::l,i,h=>by
  intro k d E;rw[Zg]at h;cases I:Xo p i x with
  |some q=>rw[I]at h;cases h
  |none =>
   rw[I]at h;simp only at h;split at h
   .grind
   .rename_i J;cases k with
    |zero=>grind
    |succ k =>
     rw[Ai7]at E;have:=E1y h k d E
     grind
abbrev Pa(t:Ty):List SV:=[.d (.str t.name),.d (.slice (Ax t.args)),.d (.int .i64 t.pos)]
abbrev deS(d:Decl):List SV:=[.d (.int .i64 d.kind),.d (.str d.name),.d (.slice (Ag d.A1)),.d (.slice (Av d.fields)),.d (.slice (B0 d.sigs)),.d (.str d.recv),.d (.slice (Bq d.vars)),.d (.str d.sig.name),.d (.slice (Ag d.sig.A1)),.d (.slice (Av d.sig.params)),.d (.str d.sig.result.name),.d (.slice (Ax d.sig.result.args)),.d (.int .i64 d.sig.result.pos),.d (.int .i64 d.sig.pos),.d (.int .i64 d.body.kind),.d (.str d.body.name),.d (.str d.body.type.name),.d (.slice (Ax d.body.type.args)),.d (.int .i64 d.body.type.pos),.d (.slice (Ax d.body.targs)),.d (.slice (Eb d.body.kids)),.d (.int .i64 d.body.pos),.d (.int .i64 d.pos)]
mutual
def B8:Ex->List Ex
 |.mk k n t a ks q=>.mk k n t a ks q::Co ks
def Co:List Ex->List Ex
 |[]=>[]
 |e::es=>B8 e++Co es
end
def M7(e:Ex):B8 e=e::Co e.kids:=by cases e;rw[B8];rfl
def Zu:∀a b:List Ex,Co (a++b)=Co a++Co b
 |[],_=>rfl
 |x::a,b=>by simp only[Jq,Co,Zu a b,Ga]
def E7j:∀{l:List Ex} {x:Ex},x∈l->(B8 x).length<=(Co l).length
 |[],_,h=>by simp at h
 |y::l,x,h=>by
  rw[Co,B6];rcases B1.1 h with rfl|h
  .omega
  .have:=E7j h;omega
def E0r:∀l:List Ex,l.length<=(Co l).length
 |[]=>Bs _
 |y::l=>by have:=E0r l;rw[Co,B6,M7];simp only[Bg];omega
def D1w(l:List Ex)(j:Nat):(Co (l.take j)).length<=(Co l).length:=by
 conv=>rhs;rw[<-Uz j l,Zu,B6]
 omega
def A8n{Q:Ex->Prop}(O:∀e:Ex,Q e->∀x,x∈e.kids->Q x):∀e:Ex,Q e->∀x,x∈B8 e->Q x:=by
 intro e
 induction e using Ex.induct with|_ e L=>?_
 intro J x hx;rw[M7,B1]at hx;rcases hx with rfl|hx
 .exact J
 have:∀l:List Ex,(∀y,y∈l->y∈e.kids)->x∈Co l->Q x:=λl=>by
  induction l with
  |nil=>intro _ h;simp[Co]at h
  |cons y l E =>
   intro I h;rw[Co,Bz]at h;rcases h with h|h
   .exact L y (I y (by simp)) (O e J y (I y (by simp))) x h
   .exact E (λz U=>I z (by simp[U])) h
 exact this e.kids (λ_ h=>h) hx
abbrev q1Y:List Nat:=[0,1,2,3,4,6,11]
def D9m:∀e:Ex,(B8 e).length<=sm->Aa prog 56 [D3 e] (.d (.slice (Eb (B8 e)))):=by
 intro e
 induction e using Ex.induct with
 |h e ih =>
 intro O;rw[M7]at O |-;simp only[Bg]at O;have Z:=E0r e.kids;refine cB func56 ?_;refine sR q1Y ?_
 (refine A0.D7 q1Y [6] (by decide +kernel) λK z=>?_;refine ev ?_;apply z;clear z K)
 refine kR q1Y λK1 u1=>?_;refine A0.bb (A0.ii e.kids (X:=Unit) (λj _=>[(1,.box 1 0),(3,.acc 6),(4,A5 j)]) (λj _=>[(1,.cells (exS e)),(6,.rows 8 (Eb (e::Co (e.kids.take j))))])
  (λj _=>True) () trivial sS (by simp[ble,A7,Co,Pt,Cg]) ?_ ?_)
 rotate_left
 .intro j _ u U I dp tk L _;have a0:=E7j I;have W:=ih u I (by omega);have V:=D1w e.kids j;have E:=D1w e.kids (j+1);rw[tk,Zu]at E;simp only[Co,Fj,B6]at E;rw[tk,Zu];simp only[Co,Fj];generalize Co (e.kids.take j)=A at*;generalize B8 u=B at*;refine Ai L q1Y λJ u2=>?_;refine gI u2 ?_;clear u2 J;refine sK λJ u2=>A0.bb ?_
  (refine lV q1Y λK z=>?_;refine ci (G8 U) ?_;refine cc W ?_;refine⟨E3v _,by unfold lim sm at*;omega,?_⟩;(try refine ev ?_);apply z;clear z K;try simp only[A4,Ac])
  refine u2 _ _ ?_;clear u2 J;refine lT q1Y ?_;exact⟨(),trivial,sS,by simp[ble,A7,Pt,Cg]⟩
 intro _ _;rw[Ci];refine Ai B3 q1Y λJ u2=>?_;refine A0.ss rfl ?_;simp only[A4,Ac,Af];refine u1 _ _<|sR q1Y ?_;exact aR
end Go.Abs
