/- step: selection, call, assertion; what a redex becomes -/
import Derived.Test.YtcmlfpcaeflleaaGreatDoorGS25
import Derived.Test.YtcmlfpcaeflleaaGreatDoorGS36
import Derived.Test.YtcmlfpcaeflleaaGreatDoorGAb21
set_option linter.all false
set_option maxHeartbeats 1000000
set_option maxRecDepth 100000
namespace Go.Abs
open Go Go.Proofs Tryz
def G9t(p:Prog)(e v:Ex):Ex × Int :=
 if Ch p v.type 1=true/\0<=Dq (λf:Param=>decide (f.name=e.name)) (Bh p v.type)/\Dq (λf:Param=>decide (f.name=e.name)) (Bh p v.type)<v.kids.length then
  ((v.kids[(Dq (λf:Param=>decide (f.name=e.name)) (Bh p v.type)).toNat]?).getD v,1)else(e,4)
def E7v(p:Prog)(e v:Ex):Ex × Int:=if Dd p [] v.type e.type=true then(v,1)else(e,3)
def F4h(e v:Ex)(d:Decl):Ex:=(d.body.subst (d.vars++Af d.sig.A1) (v.type.args++e.targs)).Ri (d.recv::d.sig.params.map (·.name)) e.kids
def F7g(p:Prog)(e v:Ex):Ex × Int:=match Kq p v.type e.name with
 |none=>(e,4)
 |some d=>if d.sig.A1.length=e.targs.length/\d.sig.params.length+1=e.kids.length then(F4h e v d,1)else(e,4)
def B1z{p:Prog}(h:p.Sm)(x:Ty):(Bh p x).length<=sm:=by
 unfold Bh;split
 .rename_i I;obtain⟨d,E,_⟩:=Qa (by decide) I;rw[E,E1];unfold fieldsD;rw[Bn];exact(h.decls.2 d (Qc E)).fields.1
 .simp
mutual
def Ty.er:Ty->Ty
 |.mk n a _=>.mk n (Ty.erL a) 0
def Ty.erL:List Ty->List Ty
 |[]=>[]
 |t::ts=>t.er::Ty.erL ts
end
def B5h:∀l:List Ty,Ty.erL l=l.map Ty.er
 |[]=>by rw[Ty.erL];rfl
 |t::l=>by rw[Ty.erL,B5h l];rfl
def G9(t:Ty):t.er=.mk t.name (t.args.map Ty.er) 0:=by cases t with|mk n a p=>rw[Ty.er,B5h];rfl
theorem J2(n:A3)(a:List Ty)(p:Int):(Ty.mk n a p).name=n:=rfl
theorem F4(n:A3)(a:List Ty)(p:Int):(Ty.mk n a p).args=a:=rfl
def mkQ(n:A3)(a:List Ty)(p:Int):(Ty.mk n a p).pos=p:=rfl
def A3t(t:Ty):t.er.name=t.name:=by rw[G9];rfl
def C6k(t:Ty):t.er.args=t.args.map Ty.er:=by rw[G9];rfl
def D5c:∀l m:List Ty,(∀t,t∈l->∀u,Cs t u=0↔t.er=u.er)->(E0 l m=0↔l.map Ty.er=m.map Ty.er)
 |[],[],_=>by simp[E0]
 |[],_::_,_=>by simp[E0]
 |_::_,[],_=>by simp[E0]
 |x::xs,y::ys,h=>by
  have I:=h x (by simp) y;have J:=D5c xs ys λt ht=>h t (by simp[ht]);rw[E0];by_cases E:Cs x y=0
  .rw[A6 (by simp[E]),J];simp[I.1 E]
  .rw[A9 E];have:¬x.er=y.er:=λL=>E (I.2 L);simp[E,this]
def Wd(t:Ty):∀u,Cs t u=0↔t.er=u.er:=by
 induction t using Ty.induct with
 |h t L =>
 intro u;have J:=D5c t.args u.args L;rw[A1n,G9 t,G9 u];by_cases E:t.name=u.name
 .rw[A6 (by simp[Tm.2 E]),J];simp[E]
 .have:¬Bs t.name u.name=0:=λI=>E (Tm.1 I);rw[A9 this];simp[this,E]
def P1(t u:Ty):Jr t u=true↔t.er=u.er:=by unfold Jr;rw[Da];exact Wd t u
def Am.er(f:Am):Am:=⟨f.name,f.bound.er,0⟩
def Param.er(f:Param):Param:=⟨f.name,f.type.er,0⟩
def A5.er(s:A5):A5:=⟨s.name,s.A1.map Am.er,s.params.map Param.er,s.result.er,0⟩
def F8k(a b:Am):Sd a b=true↔a.er=b.er:=by unfold Sd Am.er;rw[Bc,P1,Da,Am.mk.injEq];simp
def F7f(a b:Param):Sw a b=true↔a.er=b.er:=by unfold Sw Param.er;rw[Bc,P1,Da,Param.mk.injEq];simp
def C5s{α β:Type}{p:α->α->Bool}{e:α->β}(h:∀a b,p a b=true↔e a=e b):∀l m:List α,Fu p l m=true↔l.map e=m.map e
 |[],[]=>by simp[Fu]
 |[],_::_=>by simp[Fu]
 |_::_,[]=>by simp[Fu]
 |x::xs,y::ys=>by rw[Fu,Bc,h,C5s h xs ys];simp
def D7p(a b:A5):Qo a b=true↔a.er=b.er:=by unfold Qo A5.er;rw[Bc,Bc,Bc,P1,Da,C5s F8k,C5s F7f,A5.mk.injEq];simp[and_assoc]
theorem Hi(vars:List A3)(args:List Ty)(t:Ty):(t.subst vars args).er=t.er.subst vars (args.map Ty.er):=by
 induction t using Ty.induct with
 |h t J =>
 rw[Xj,Xj vars (args.map Ty.er) t.er,A3t,C6k,Bn,Bn];by_cases E:t.args.length=0/\0<=Dc t.name vars 0/\Dc t.name vars 0<args.length
 .have I:(Dc t.name vars 0).toNat<args.length:=by omega
  rw[A9 E,A9 E,G9,J2,F4];rw[Db,B8 I,Eu,E1,E1];generalize args[(Dc t.name vars 0).toNat]=u;rw[G9 u,G9 t];rfl
 .rw[A6 E,A6 E,G9,J2,F4,Fo,Fo];rw[G9 t,mkQ]
  congr 1
  refine J7 λu L=>?_;exact J u L
def H0k(vars:List A3)(args:List Ty)(f:Am):(f.subst vars args).er=f.er.subst vars (args.map Ty.er):=by simp only[Am.subst,Am.er,Hi]
def E4k(vars:List A3)(args:List Ty)(f:Param):(f.subst vars args).er=f.er.subst vars (args.map Ty.er):=by simp only[Param.subst,Param.er,Hi]
theorem C9k(vars:List A3)(args:List Ty)(s:A5):(s.subst vars args).er=s.er.subst vars (args.map Ty.er):=by simp only[A5.subst,A5.er,Hi,Fo,A5.mk.injEq,Sh,Qi];exact⟨J7 λu _=>H0k vars args u,J7 λu _=>E4k vars args u⟩
def A1g(l:List Am):Af (l.map Am.er)=Af l:=by simp only[Af,Fo];rfl
def C3r(n:Nat):(Dg n).map Ty.er=Dg n:=by simp only[Dg,Fo];refine J7 λi _=>?_;simp only[Function.comp,Ve];rw[G9];rfl
def C2t(s:A5):s.canon.er=s.er.canon:=by
 simp only[A5.canon,A5.er,A5.mk.injEq,Qi,Sh];refine⟨?_,?_,?_⟩
 .refine M3 λi=>?_;simp only[Hp,Db,Wu,A1g,Bn];cases s.A1[i]? with
  |none=>rfl
  |some f=>simp only[Eu,Am.er,Hi,C3r]
 .refine M3 λi=>?_;simp only[Kg,Db,Wu,A1g,Bn];cases s.params[i]? with
  |none=>rfl
  |some f=>simp only[Eu,Param.er,Hi,C3r]
 .rw[Hi,C3r,A1g,Bn]
def B3e{l:List A5}(E:(l.map (·.name)).Nodup){s t:A5}(hs:s∈l)(ht:t∈l)(h:s.name=t.name):s=t:=by
 induction l with
 |nil=>simp at hs
 |cons x l L =>
  rw[Ck,Ui]at E;rcases Aw.1 hs with J|hs1
  .rcases Aw.1 ht with I|ht1
   .rw[J,I]
   .exact absurd (show x.name∈l.map (·.name) from B1.2 ⟨t,ht1,by rw[<-h,J]⟩) E.1
  .rcases Aw.1 ht with I|ht1
   .exact absurd (show x.name∈l.map (·.name) from B1.2 ⟨s,hs1,by rw[h,I]⟩) E.1
   .exact L E.2 hs1 ht1
def E8o{l:List A5}(O:(l.map (·.name)).Nodup)(w:A5):B1t l w=false↔∃s,s∈l/\s.name=w.name/\s.canon.er=w.canon.er:=by
 unfold B1t Gj;rcases M9 (λs:A5=>decide (s.name=w.name)) l with⟨J,I⟩|⟨j,x,J,I,U⟩
 .rw[J,A9 (by decide)];constructor
  .intro h;cases h
  .rintro⟨s,hs,L,_⟩;have:=I s hs;simp[L]at this
 .rw[J,A6 (by omega),Hs,I,E1];have M:=Br I;have E:x.name=w.name:=by simpa using U
  constructor
  .intro h;refine⟨x,M,E,(D7p _ _).1 ?_⟩;cases V:Qo x.canon w.canon with
   |true=>rfl
   |false=>rw[V]at h;cases h
  .rintro⟨s,hs,L,W⟩;obtain rfl:=B3e O hs M (L.trans E.symm);rw[(D7p _ _).2 W];rfl
def G5b{l:List A5}(E:(l.map (·.name)).Nodup)(m:List A5):Jb l m=[]↔∀w,w∈m->∃s,s∈l/\s.name=w.name/\s.canon.er=w.canon.er:=by unfold Jb;rw[Ar7,List.filter_eq_nil_iff];refine forall_congr' λw=>forall_congr' λ_=>?_;rw[<-E8o E w];simp
def G2y{l m:List A5}(h:l.map A5.er=m.map A5.er):∀w,w∈m->∃s,s∈l/\s.name=w.name/\s.canon.er=w.canon.er:=by
 intro w I;have:w.er∈l.map A5.er:=by rw[h];exact B1.2 ⟨w,I,rfl⟩
 obtain⟨s,hs,E⟩:=B1.1 this;refine⟨s,hs,?_,by rw[C2t,C2t,E]⟩;have:s.er.name=w.er.name:=by rw[E]
 exact this
def A7w{x y:Ty}(h:x.er=y.er):x.name=y.name/\x.args.map Ty.er=y.args.map Ty.er/\x.args.length=y.args.length:=by
 have I:x.er.name=y.er.name:=by rw[h]
 have E:x.er.args=y.er.args:=by rw[h]
 rw[A3t,A3t]at I;rw[C6k,C6k]at E;exact⟨I,E,by have:=Gk List.length E;simpa using this⟩
def G7o{env:List Am}{x y:Ty}(h:x.er=y.er):Ez env x=Ez env y:=by obtain⟨E,_,I⟩:=A7w h;unfold Ez;rw[E,I]
def C1h{env:List Am}{x y:Ty}(h:x.er=y.er):Cm env x=Cm env y:=by unfold Cm;rw[G7o h]
def A8d{p:Prog}{x y:Ty}{k:Int}(h:x.er=y.er):Ch p x k=Ch p y k:=by obtain⟨E,_,I⟩:=A7w h;unfold Ch;rw[E,I]
def H1n{p:Prog}{env:List Am}{x y:Ty}(h:x.er=y.er):isIface p env x=isIface p env y:=by unfold isIface;rw[A8d h,C1h h]
def F2i{vars:List A3}{a b:List Ty}(h:a.map Ty.er=b.map Ty.er)(l:List A5)(j:Nat):(Io vars a l j).map A5.er=(Io vars b l j).map A5.er:=by unfold Io;rw[Fo,Fo];refine J7 λs _=>?_;simp only[Function.comp,C9k,h]
def H1p{p:Prog}{x y:Ty}(h:x.er=y.er):(H8 p x).map A5.er=(H8 p y).map A5.er:=by
 obtain⟨I,E,_⟩:=A7w h;unfold H8;rw[A8d h,I];split
 .exact F2i E _ _
 .rfl
def F8h{p:Prog}{x y:Ty}(h:x.er=y.er):Ke p x=Ke p y:=by obtain⟨E,_,I⟩:=A7w h;funext d i;unfold Ke Lw;rw[A8d h,E,I]
def G2u{p:Prog}{x y:Ty}(h:x.er=y.er)(j:Nat):(Gt p x j).map A5.er=(Gt p y j).map A5.er:=by unfold Gt;rw[F8h h,Fo,Fo];refine J7 λs _=>?_;simp only[Function.comp,C9k,(A7w h).2.1]
def C1y{p:Prog}{env:List Am}{x y:Ty}(h:x.er=y.er):(Dk p env x).map A5.er=(Dk p env y).map A5.er:=by
 unfold Dk;rw[C1h h];cases Cm env y with
 |some b=>rfl
 |none =>
  simp only[Nh,Ky,I6,Fy];rw[A8d h];split
  .exact H1p h
  .exact G2u h _
def C1i(p:Prog)(env:List Am)(x:Ty):((Dk p env x).map (·.name)).Nodup:=by
 unfold Dk;split
 .exact C1s p _
 .split
  .simp
  .exact(B9n p _ _ (Bi _)).1
def D5i(p:Prog)(env:List Am)(x:Ty):((D8 p env x).map (·.name)).Nodup :=
 (((A8b (Dk p env x)).map _).nodup_iff).2 (C1i p env x)
def Zq{p:Prog}{env:List Am}{x:Ty}{s:A5}:s∈D8 p env x↔s∈Dk p env x:=(A8b _).mem_iff
def B6f{p:Prog}{env:List Am}{x y:Ty}:Jb (D8 p env x) (D8 p env y)=[]↔∀w,w∈Dk p env y->∃s,s∈Dk p env x/\s.name=w.name/\s.canon.er=w.canon.er:=by rw[G5b (D5i p env x)];simp only[Zq]
def C5j(p:Prog)(env:List Am)(x:Ty):Dd p env x x=true:=by
 unfold Dd;split
 .rw[Da,B6f];exact λw E=>⟨w,E,rfl,rfl⟩
 .exact(P1 x x).2 rfl
def A0o{p:Prog}{env:List Am}{x y z:Ty}(E:Dd p env x y=true)(I:Dd p env y z=true):Dd p env x z=true:=by
 unfold Dd at*;by_cases hz:isIface p env z=true
 .rw[A9 hz]at I |-;rw[Da,B6f]at I |-;have L:∀w,w∈Dk p env y->∃s,s∈Dk p env x/\s.name=w.name/\s.canon.er=w.canon.er:=by
   by_cases J:isIface p env y=true
   .rw[A9 J,Da,B6f]at E;exact E
   .rw[A6 J,P1]at E;exact G2y (C1y E)
  intro w U;obtain⟨s,hs,V,O⟩:=I w U;obtain⟨r,hr,M,W⟩:=L s hs;exact⟨r,hr,M.trans V,W.trans O⟩
 .rw[A6 hz,P1]at I |-;have J:¬isIface p env y=true:=by rw[H1n I];exact hz
  rw[A6 J,P1]at E;exact E.trans I
theorem E5k(l:List Am)(E:A3):(Dc E (Af l) 0 = -1)\/∃(k:Nat)(f:Am),l[k]?=some f/\f.name=E/\Dc E (Af l) 0=(k:Int):=by
 rcases A3h E (Af l) 0 with⟨h,_⟩|⟨k,I,L⟩
 .exact .inl h
 .unfold Af at I;rw[Db,N9]at I;obtain⟨f,J,M⟩:=I;exact .inr ⟨k,f,J,M,by rw[L];simp⟩
def F8q(p:Prog)(e:Ex):Ex × Int:=if e.kind=3 then(e,2)else match e.kids[0]? with
 |none=>(e,4)
 |some v=>if e.kind=2 then F7g p e v else if e.kind=4 then G9t p e v else if e.kind=5 then E7v p e v else(e,4)
mutual
def B9v(p:Prog):Ex->Ex × Int
 |.mk k n t a ks q=>match D3i p ks with
  |some (E,o)=>if o=1 then(.mk k n t a E q,1)else(.mk k n t a ks q,o)
  |none=>F8q p (.mk k n t a ks q)
def D3i(p:Prog):List Ex->Option (List Ex × Int)
 |[]=>none
 |k::ks=>if isVal k=true then(D3i p ks).map λr=>(k::r.1,r.2)else some ((B9v p k).1::ks,(B9v p k).2)
end
def C8b(p:Prog):Nat->Ex->Prop
 |0,e=>e.Sm
 |n+1,e=>e.Sm/\((B9v p e).2=1->C8b p n (B9v p e).1)
def C8b.sm{p:Prog}:∀{n:Nat} {e:Ex},C8b p n e->e.Sm
 |0,_,h=>h
 |_+1,_,h=>h.1
def Decl.B8s(d:Decl):Bool:=decide (d.recv=[]) && (decide (d.vars.length=0) && (Qo d.sig Zf && B3w d.body ex0))
def Decl.A2y(d:Decl):Bool:=if d.kind=3 then isName d.recv && (decide ((d.A1.length:Int)+(d.fields.length:Int)+(d.sigs.length:Int)=0) && (d.sig.right && d.body.right))
 else d.B8s && ((decide (d.kind=1) && decide (d.sigs.length=0)) ||(decide (d.kind=2) && decide (d.fields.length=0)))
def Decl.right(d:Decl):Bool:=isName d.name && (Si d.A1 && (Vj d.fields && (d.sigs.all A5.right && (d.vars.all isName && d.A2y))))
structure Decl.Ln(d:Decl):Prop where
 A1:d.A1.length<=sm
 fields:d.fields.length<=sm
 sigs:d.sigs.length<=3*sm
 vars:d.vars.length<=sm
 none:¬d.kind=3->d.sig.Lm/\d.body.Lm
def Decl.Sm.ln{d:Decl}(h:d.Sm):d.Ln:=⟨h.A1.1,h.fields.1,by have:=h.sigs.1;omega,h.vars.1,λ_=>⟨h.sig.lm,h.body.lm⟩⟩
abbrev Gp:List Nat:=[0,1,2,3,4,5,21,26,35,40,49,52]
set_option maxHeartbeats 4000000 in
def G3o(d:Decl)(h:d.Ln)(hn:d.Nn):Ac prog 66 [Ma d] (Ay d.right):=by
 have I:=Z6 d.name;have Z:=E0j d.A1 hn.A1;have J:=D9m d.fields hn.fields;have a7:=h.A1;have a6:=h.fields;have a5:=h.sigs;have a4:=h.vars;unfold Decl.right;refine cB func66 ?_;refine sR Gp ?_
 (refine A0.zz 1 rfl rfl (wk [(1,.Ah (Bb d) 0)] [] ?_))
 refine sK λL u1=>?_;rcases Fb (isName d.name)with b1|b1
 rotate_left
 .rw[b1]at I;rw[b1,C9];refine sC I Gp ?_;refine tI ?_;refine sR Gp ?_;exact aR
 rcases Fb (Si d.A1)with b2|b2;rotate_left
 .rw[b1]at I;rw[b2]at Z;rw[b1,b2,C9,Cr]
  (refine sV Gp λK z=>?_;refine cc I ?_;refine cc Z ?_;apply z;clear z K)
  refine tI ?_;refine sR Gp ?_;exact aR
 rcases Fb (Vj d.fields)with b3|b3;rotate_left
 .rw[b1]at I;rw[b2]at Z;rw[b3]at J;rw[b1,b2,b3,C9,Cr,Cr]
  (refine sV Gp λK z=>?_;refine cc I ?_;refine cc Z ?_;refine cc J ?_;apply z;clear z K)
  refine tI ?_;refine sR Gp ?_;exact aR
 rw[b1]at I;rw[b2]at Z;rw[b3]at J;rw[b1,b2,b3,Cr,Cr,Cr]at u1 |-
 (refine sV Gp λK z=>?_;refine cc I ?_;refine cc Z ?_;refine cc J ?_;apply z;clear z K)
 refine kI u1 ?_;clear u1 L I Z J b1 b2 b3;refine kR Gp λL u1=>?_;refine A0.bb (A0.ii d.sigs (X:=Unit) (λj _=>[(1,.Ah (Bb d) 0),(3,A8 j)]) (λ_ _=>[])
  (λj _=>(d.sigs.drop j).all A5.right=d.sigs.all A5.right) () rfl (by simp[sle,Ax,Ag,Bb]) sB ?_ ?_)
 rotate_left
 .intro j _ s hd V dp tk a0 E;rw[dp,Ro]at E;refine Ai a0 Gp λM u2=>?_;refine gI u2 ?_;clear u2 M;refine sK λM u2=>A0.bb ?_
  (refine sV Gp λK z=>?_;refine ci (F6 hd) ?_;refine cc (D8d s (hn.sigs s V)) ?_;apply z;clear z K)
  refine A0.cond rfl (λO=>?_) (λO=>?_)
  .refine sR Gp ?_;simp only[M1]at O;rw[O,C9]at E;rw[<-E,C9];exact aR
  simp only[S5]at O;rw[O,Cr]at E;refine A0.kk (u2 _ _ ?_);clear u2 M;refine lT Gp ?_;exact⟨(),E,(by simp[sle,Ax,Ag,Bb]),sB⟩
 intro _ E;rw[De,Aq0]at E;rw[<-E,Cr]at u1 |-;clear E;refine Ai B3 Gp λM u2=>?_;refine A0.ss rfl ?_;simp only[A4,Ab,Ae];refine u1 _ _ ?_;clear u2 M u1 L;refine kR Gp λL u1=>?_;refine A0.bb (A0.ii d.vars (X:=Unit) (λj _=>[(1,.Ah (Bb d) 0),(4,A8 j)]) (λ_ _=>[])
  (λj _=>(d.vars.drop j).all isName=d.vars.all isName) () rfl (by simp[sle,Ax,Ag,Bb]) sB ?_ ?_)
 rotate_left
 .intro j _ s hd V dp tk a0 E;rw[dp,Ro]at E;refine Ai a0 Gp λM u2=>?_;refine gI u2 ?_;clear u2 M;refine sK λM u2=>A0.bb ?_
  (refine sV Gp λK z=>?_;refine ci (Ku hd) ?_;refine cc (Z6 s) ?_;apply z;clear z K)
  refine A0.cond rfl (λO=>?_) (λO=>?_)
  .refine sR Gp ?_;simp only[M1]at O;rw[O,C9]at E;rw[<-E,C9];exact aR
  simp only[S5]at O;rw[O,Cr]at E;refine A0.kk (u2 _ _ ?_);clear u2 M;refine lT Gp ?_;exact⟨(),E,(by simp[sle,Ax,Ag,Bb]),sB⟩
 intro _ E;rw[De,Aq0]at E;rw[<-E,Cr]at u1 |-;clear E;refine Ai B3 Gp λM u2=>?_;refine A0.ss rfl ?_;simp only[A4,Ab,Ae];refine u1 _ _ ?_;clear u2 M u1 L;unfold Decl.A2y;by_cases k3:d.kind=3
 .rw[A9 k3];refine sK λL u1=>?_;have I:=Z6 d.recv;have J:=D8d d.sig hn.sig;have h4:=D5o d.body hn.body;refine Aq k3 Gp ?_;refine tI ?_;rcases Fb (isName d.recv)with b1|b1
  rotate_left
  .rw[b1]at I;rw[b1,C9];refine sC I Gp ?_;exact aR
  rw[b1]at I;rw[b1,Cr];by_cases hz:(d.A1.length:Int)+(d.fields.length:Int)+(d.sigs.length:Int)=0;rotate_left
  .rw[Ce hz,C9]
   (refine sV Gp λK z=>?_;refine⟨_,.inl ⟨_,rfl,I,rfl⟩,?_⟩;(try refine As hz ?_);refine⟨by first| (unfold Az;omega)| (simp only[Az,sm]at*;omega),?_⟩;(try refine As hz ?_);refine⟨by first| (unfold Az;omega)| (simp only[Az,sm]at*;omega),?_⟩;(try refine As hz ?_);apply z;clear z K)
   exact aR
  rw[Bo hz,Cr];rcases Fb d.sig.right with b3|b3
  rotate_left
  .rw[b3]at J;rw[b3,C9]
   (refine sV Gp λK z=>?_;refine⟨_,.inl ⟨_,rfl,I,rfl⟩,?_⟩;(try refine As hz ?_);refine⟨by first| (unfold Az;omega)| (simp only[Az,sm,lim]at*;omega),?_⟩;(try refine As hz ?_);refine⟨by first| (unfold Az;omega)| (simp only[Az,sm,lim]at*;omega),?_⟩;(try refine As hz ?_);refine cc J ?_;apply z;clear z K)
   exact aR
  rw[b3]at J;rw[b3,Cr]
  (refine sV Gp λK z=>?_;refine⟨_,.inl ⟨_,rfl,I,rfl⟩,?_⟩;(try refine As hz ?_);refine⟨by first| (unfold Az;omega)| (simp only[Az,sm,lim]at*;omega),?_⟩;(try refine As hz ?_);refine⟨by first| (unfold Az;omega)| (simp only[Az,sm,lim]at*;omega),?_⟩;(try refine As hz ?_);refine cc J ?_;refine cc h4 ?_;apply z;clear z K)
  exact aR
 rw[A6 k3];refine Ai k3 Gp λL u1=>?_;refine kI u1 ?_;clear u1 L;refine sK λL u1=>?_;have rest:∀sl bx,sle sl [(1,.Ah (Bb d) 0),(5,Ay d.B8s)]->L sl bx:=by
  intro sl bx a3;refine u1 _ _ (A0.ww (bx':=[]) a3 trivial ?_);clear u1 L;rcases Fb d.B8s with b|b
  rotate_left
  .rw[b,C9];refine sR Gp ?_;exact aR
  rw[b,Cr];by_cases k1:d.kind=1
  .have k2:¬d.kind=2:=by omega
   rw[Bo k1,Cr,Ce k2,C9,Ar1];by_cases hs:d.sigs.length=0
   .have W:(d.sigs.length:Int)=0:=by omega
    rw[Bo hs];refine Fi k1 W Gp ?_;exact aR
   .have W:¬(d.sigs.length:Int)=0:=by omega
    have a2:¬(1:Int)=2:=by omega
    rw[Ce hs];refine sR3 k1 W a2 Gp ?_;exact aR
  rw[Ce k1,C9,Ws];by_cases k2:d.kind=2
  .rw[Bo k2,Cr];have a1:¬(2:Int)=1:=by omega
   have e:decide (d.fields.length=0)=decide ((d.fields.length:Int)=0):=by
    by_cases hf:d.fields.length=0
    .rw[Bo hf,Bo (by omega)]
    .rw[Ce hf,Ce (by omega)]
   rw[e];refine Fi k2 a1 Gp ?_;exact aR
  .rw[Ce k2,C9];refine Fi k1 k2 Gp ?_;exact aR
 have J:=D7w d.sig Zf (h.none k3).1;have h4:=G8k d.body (h.none k3).2 ex0;unfold Decl.B8s at rest;by_cases hr:d.recv=[];rotate_left
 .rw[Ce hr,C9]at rest
  (refine lQ Gp λK z=>?_;refine As hr ?_;apply z;clear z K;try simp only[A4,])
  exact rest _ _ (by simp[sle,Ax,Ag,Bb])
 have br:decide (d.recv=[])=true:=Bo hr;rw[br,Cr]at rest;by_cases hv:d.vars.length=0;rotate_left
 .have U:¬(d.vars.length:Int)=0:=by omega
  rw[Ce hv,C9]at rest
  (refine lQ Gp λK z=>?_;refine Gv br U ?_;apply z;clear z K;try simp only[A4,])
  exact rest _ _ (by simp[sle,Ax,Ag,Bb])
 have U:(d.vars.length:Int)=0:=by omega
 rw[Bo hv,Cr]at rest;rcases Fb (Qo d.sig Zf)with b3|b3
 rotate_left
 .rw[b3]at J rest;rw[C9]at rest
  (refine lQ Gp λK z=>?_;refine Gv br U ?_;refine cc J ?_;apply z;clear z K;try simp only[A4,])
  exact rest _ _ (by simp[sle,Ax,Ag,Bb])
 rw[b3]at J rest;rw[Cr]at rest
 (refine lQ Gp λK z=>?_;refine Gv br U ?_;refine cc J ?_;refine cc h4 ?_;apply z;clear z K;try simp only[A4,])
 exact rest _ _ (by simp[sle,Ax,Ag,Bb])
def Prog.right(p:Prog):Bool:=p.decls.all Decl.right && p.main.right
abbrev A2u:List Nat:=[0,1,2,3,8,17]
def H0z(p:Prog)(W:p.decls.length<=100000000000)(h:∀d,d∈p.decls->d.Ln)(O:p.Nn):Ac prog 25 [D7 p] (Ay p.right):=by
 have V:=D5o p.main O.main;unfold Prog.right;refine cB func25 ?_;refine sR A2u ?_
 (refine A0.zz 1 rfl rfl (wk [(1,.Ah (An p) 0)] [] ?_))
 refine kR A2u λK1 u1=>?_;refine A0.bb (A0.ii p.decls (X:=Unit) (λj _=>[(1,.Ah (An p) 0),(3,A8 j)]) (λ_ _=>[])
  (λj _=>(p.decls.drop j).all Decl.right=p.decls.all Decl.right) () rfl (by simp[sle,Ax,Ag,An]) sB ?_ ?_)
 rotate_left
 .intro j _ s U I Z tk M E;rw[Z,Ro]at E;refine Ai M A2u λL u2=>?_;refine gI u2 ?_;clear u2 L;refine sK λL u2=>A0.bb ?_
  (refine sV A2u λK z=>?_;refine ci (Ev U) ?_;refine cc (G3o s (h s I) (O.decls s I)) ?_;apply z;clear z K)
  refine A0.cond rfl (λJ=>?_) (λJ=>?_)
  .refine sR A2u ?_;simp only[M1]at J;rw[J,C9]at E;rw[<-E,C9];exact aR
  simp only[S5]at J;rw[J,Cr]at E;refine A0.kk (u2 _ _ ?_);clear u2 L
  (refine lV A2u λK z=>?_;refine cl ?_;apply z;clear z K;try simp only[A4,])
  exact⟨(),E,(by simp[sle,Ax,Ag,An]),sB⟩
 intro _ E;rw[De,Aq0]at E;rw[<-E,Cr]at u1 |-;clear E;refine Ai B3 A2u λL u2=>?_;refine A0.ss rfl ?_;simp only[A4,Ab,Ae];refine u1 _ _<|sC V A2u ?_;exact aR
def E8p(p:Prog)(h:p.Sm)(E:p.Nn):Ac prog 25 [D7 p] (Ay p.right):=H0z p (D3 h.decls.1 (by decide)) (λd I=>(h.decls.2 d I).ln) E
structure Fj where
 pos:Int
 bad:Bool
 Cv:Bool
def Pm:Fj:=⟨0,false,false⟩
def Mm(n:Int):Fj:=⟨n,true,false⟩
def Ib:Option Int->Fj
 |none=>Pm
 |some q=>Mm q
abbrev Lr(r:Fj):SV:=.agg [.d (.int .i64 r.pos),.d (.bool r.bad),.d (.bool r.Cv)]
abbrev Iz:Ap:=.cells [.d (.int .i64 0),.d (.bool false),.d (.bool false)]
def C5a(a b:List Am)(E:a.length<=sm)(I:b.length<=sm):Ac prog 235 [.d (.slice (Ar a)),.d (.slice (Ar b))] (.d (.slice (Ar (a++b)))):=by
 rw[show Ar (a++b)=Ar a++Ar b by simp[Ar]];refine cB func235 ?_;refine sR [0,1,4] ?_
 (refine A0.Ef [0,1,4,5] [5] (by decide +kernel) λK z=>?_;refine ev ?_;refine⟨C2b _,by unfold lim sm at*;omega,?_⟩;(try refine ev ?_);refine⟨C2b _,by unfold lim sm at*;omega,?_⟩;(try refine ev ?_);apply z;clear z K)
 exact aR
def A2k(p:Prog)(pre:List Am):List Am->Option Int
 |[]=>none
 |f::fs=>if kindOf p f.name≠0\/f.name∈Af pre then some f.pos else A2k p (pre++[f]) fs
def A4e(p:Prog)(all:List Am):List Am->Option Int
 |[]=>none
 |f::fs=>match Bt p all f.bound with
  |some q=>some q
  |none=>if isIface p all f.bound=true then A4e p all fs else some f.bound.pos
def Zm(p:Prog)(env l:List Am):Option Int:=match A2k p env l with
 |some q=>some q
 |none=>A4e p (env++l) l
abbrev Jo:List Nat:=[0,1,2,3,6,7,8,9,10,11,12,16,41,54,68,79]
def D6b(p:Prog)(h:p.Sm)(env l:List Am)(a2:env.length+l.length<=sm)(he:∀f,f∈env->f.Sm)(hl:∀f,f∈l->f.Sm) :
  Ac prog 178 [D7 p,.d (.slice (Ar env)),.d (.slice (Ar l))] (Lr (Ib (Zm p env l))):=by
 have Z:∀f,f∈env++l->f.Sm:=λf hf=>by
  rcases D2.1 hf with h|h
  .exact he f h
  .exact hl f h
 have a0:=C5a env l (by omega) (by omega);unfold Zm;refine cB func178 ?_;refine sR Jo ?_
 (refine A0.zz 3 rfl rfl (wk [(1,.d (.slice (Ar env))),(2,.d (.slice (Ar l))),(3,.Ah (An p) 0),(6,.box 6 0)] [(6,Iz)] ?_))
 refine kR Jo λK1 u1=>?_;refine A0.bb (A0.ii l (X:=Unit) (λj _=>[(1,.d (.slice (Ar env))),(2,.d (.slice (Ar l))),(3,.Ah (An p) 0),(6,.box 6 0),(7,A8 j)]) (λ_ _=>[(6,Iz)])
  (λj _=>A2k p (env++l.take j) (l.drop j)=A2k p env l) () (by simp) (by simp[sle,Ax,Ag,An]) sB ?_ ?_)
 rotate_left
 .intro j _ d I U dp tk V E;rw[dp,A2k]at E;have hj:Ac prog 235 [.d (.slice (Ar env)),.d (.slice ((Ar l).take j))] (.d (.slice (Ar (env++l.take j)))):=by
   rw[show(Ar l).take j=Ar (l.take j) by simp[Ar,List.map_take]];exact C5a env (l.take j) (by omega) (by rw[Dx];omega)
  have a1:=Vq (env++l.take j) (by rw[Bz,Dx];omega);have hk:=B0m p d.name;have M:=A9c (Af (env++l.take j)) d.name;refine Ai V Jo λL u2=>?_;refine gI u2 ?_;clear u2 L;refine sK λL u2=>A0.bb ?_
  (refine sV Jo λK z=>?_;refine⟨C2b _,by omega,by omega,?_⟩;(try refine ev ?_);refine cc hj ?_;refine cc a1 ?_;apply z;clear z K)
  by_cases J:kindOf p d.name=0;rotate_left
  .rw[A9 (.inl J)]at E;rw[<-E]
   (refine sG Jo [] 15 [] λK z=>?_;refine ev ?_;refine ci (F5 I) ?_;refine⟨_,.inl ⟨_,rfl,hk,rfl⟩,?_⟩;(try refine As J ?_);apply z;clear z K)
   refine A0.tt rfl ?_
   (refine sV Jo λK z=>?_;refine ci (F5 I) ?_;apply z;clear z K)
   exact aR
  by_cases hm:d.name∈Af (env++l.take j)
  .rw[A9 (.inr hm)]at E;rw[<-E];rw[Bo hm]at M
   (refine sG Jo [] 15 [] λK z=>?_;refine ev ?_;refine ci (F5 I) ?_;refine⟨_,.inl ⟨_,rfl,hk,rfl⟩,?_⟩;(try refine As J ?_);refine ci (F5 I) ?_;refine cc M ?_;apply z;clear z K)
   refine A0.tt rfl ?_
   (refine sV Jo λK z=>?_;refine ci (F5 I) ?_;apply z;clear z K)
   exact aR
  rw[A6 (by rintro(h|h);exact h J;exact hm h)]at E;rw[Ce hm]at M
  (refine sG Jo [] 15 [] λK z=>?_;refine ev ?_;refine ci (F5 I) ?_;refine⟨_,.inl ⟨_,rfl,hk,rfl⟩,?_⟩;(try refine As J ?_);refine ci (F5 I) ?_;refine cc M ?_;apply z;clear z K)
  refine A0.ff rfl (A0.kk (u2 _ _ ?_));clear u2 L;refine lT Jo ?_;exact⟨(),by rw[tk,<-N6];exact E,(by simp[sle,Ax,Ag,An]),sB⟩
 intro _ E;rw[De,A2k]at E;rw[<-E]at u1 |-;simp only;clear E;refine Ai B3 Jo λL u2=>?_;refine A0.ss rfl ?_;simp only[A4,Ab,Ae];refine u1 _ _ ?_;clear u2 L u1 K1;refine sC a0 Jo ?_;refine kR Jo λK1 u1=>?_;refine A0.bb (A0.ii l (X:=Unit) (λj _=>[(2,.d (.slice (Ar l))),(3,.Ah (An p) 0),(6,.box 6 0),(9,.d (.slice (Ar (env++l)))),(10,A8 j)]) (λ_ _=>[(6,Iz)])
  (λj _=>A4e p (env++l) (l.drop j)=A4e p (env++l) l) () rfl (by simp[sle,Ax,Ag,An]) sB ?_ ?_)
 rotate_left
 .intro j _ d I U dp tk V E;rw[dp,A4e]at E;have W:=A8h p h (env++l) (by rw[Bz];omega) Z d.bound (hl d U).bound;have O:=E2n p (env++l) (by rw[Bz];omega) d.bound;refine Ai V Jo λL u2=>?_;refine gI u2 ?_;clear u2 L;refine sK λL u2=>A0.bb ?_;cases hq:Bt p (env++l) d.bound with
  |some q =>
   rw[hq]at E W;simp only[U8]at W;rw[<-E]
   (refine sG Jo [] 12 [] λK z=>?_;refine ev ?_;refine ci (F5 I) ?_;refine cc W ?_;apply z;clear z K)
   refine kR Jo λK3 u3=>?_;refine tI ?_;refine sR Jo ?_;exact aR
  |none =>
   rw[hq]at E W;simp only[U8]at W;simp only at E
   (refine sG Jo [] 12 [] λK z=>?_;refine ev ?_;refine ci (F5 I) ?_;refine cc W ?_;apply z;clear z K)
   refine kR Jo λK3 u3=>?_;refine kI u3 ?_;clear u3 K3;rcases Fb (isIface p (env++l) d.bound)with hb|hb
   .rw[A9 hb]at E;rw[hb]at O
    (refine sG Jo [] 7 [] λK z=>?_;refine ev ?_;refine ci (F5 I) ?_;refine cc O ?_;apply z;clear z K)
    refine A0.ff rfl (A0.kk (u2 _ _ ?_));clear u2 L;refine lT Jo ?_;exact⟨(),E,(by simp[sle,Ax,Ag,An]),sB⟩
   .rw[A6 (by simp[hb])]at E;rw[<-E];rw[hb]at O
    (refine sG Jo [] 7 [] λK z=>?_;refine ev ?_;refine ci (F5 I) ?_;refine cc O ?_;apply z;clear z K)
    refine A0.tt rfl ?_
    (refine sV Jo λK z=>?_;refine ci (F5 I) ?_;apply z;clear z K)
    exact aR
 intro _ E;rw[De,A4e]at E;rw[<-E]at u1 |-;clear E;refine Ai B3 Jo λL u2=>?_;refine A0.ss rfl ?_;simp only[A4,Ab,Ae];refine u1 _ _<|sR Jo ?_;exact aR
def Vf(p:Prog)(env:List Am)(pre:List A3):List Param->Option Int
 |[]=>none
 |f::fs=>if f.name∈pre then some f.pos else match Bt p env f.type with
  |some q=>some q
  |none=>Vf p env (pre++[f.name]) fs
abbrev Qn:List Nat:=[0,1,2,3,6,7,8,9,10,14,23,49]
def D1e(p:Prog)(h:p.Sm)(env:List Am)(V:env.length<=sm)(he:∀f,f∈env->f.Sm)(l:List Param)(a0:l.length<=sm)(hl:∀f,f∈l->f.Sm) :
  Ac prog 179 [D7 p,.d (.slice (Ar env)),.d (.slice (B9 l))] (Lr (Ib (Vf p env [] l))):=by
 refine cB func179 ?_;refine sR Qn ?_
 (refine A0.zz 3 rfl rfl (wk [(1,.d (.slice (Ar env))),(2,.d (.slice (B9 l))),(3,.Ah (An p) 0),(6,.box 6 0)] [(6,Iz)] ?_))
 refine sR Qn ?_;refine A0.pp 7 1 7 rfl<|kR Qn λK1 u1=>?_;refine A0.bb (A0.ii l (X:=Unit) (λj _=>[(1,.d (.slice (Ar env))),(2,.d (.slice (B9 l))),(3,.Ah (An p) 0),(6,.box 6 0),(7,.acc 7),(8,A8 j)]) (λj _=>[(6,Iz),(7,.rows 1 (C5 ((l.take j).map (·.name))))])
  (λj _=>Vf p env ((l.take j).map (·.name)) (l.drop j)=Vf p env [] l) () rfl (by simp[sle,Ax,Ag,An]) (by simp[ble,A7,C5]) ?_ ?_)
 rotate_left
 .intro j _ d J M dp tk W E;rw[dp,Vf]at E;have I:=A9c ((l.take j).map (·.name)) d.name;have L:=A8h p h env V he d.type (hl d M).type;refine Ai W Qn λO u2=>?_;refine gI u2 ?_;clear u2 O;refine sK λO u2=>A0.bb<|sK λK3 Z=>?_;by_cases U:d.name∈(l.take j).map (·.name)
  .rw[A9 U]at E;rw[<-E];rw[Bo U]at I
   (refine sV Qn λK z=>?_;refine ci (E9 J) ?_;refine⟨_,.inr ⟨_,rfl,I,rfl⟩,?_⟩;(try refine ev ?_);apply z;clear z K)
   refine tI ?_
   (refine sV Qn λK z=>?_;refine ci (E9 J) ?_;apply z;clear z K)
   exact aR
  rw[A6 U]at E;rw[Ce U]at I
  (refine sV Qn λK z=>?_;refine ci (E9 J) ?_;refine⟨_,.inr ⟨_,rfl,I,rfl⟩,?_⟩;(try refine ev ?_);apply z;clear z K)
  refine kI Z ?_;clear Z K3
  (refine sV Qn λK z=>?_;refine ci (E9 J) ?_;refine⟨by simp,by simp only[Bn,Dx];unfold lim sm at*;omega,?_⟩;(try refine ev ?_);apply z;clear z K)
  cases hq:Bt p env d.type with
  |some q =>
   rw[hq]at E L;simp only[U8]at L;rw[<-E]
   (refine sG Qn [] 12 [] λK z=>?_;refine ev ?_;refine ci (E9 J) ?_;refine cc L ?_;apply z;clear z K)
   refine sR Qn ?_;refine A0.tt rfl<|sR Qn ?_;exact aR
  |none =>
   rw[hq]at E L;simp only[U8]at L;simp only at E
   (refine sG Qn [] 12 [] λK z=>?_;refine ev ?_;refine ci (E9 J) ?_;refine cc L ?_;apply z;clear z K)
   refine sR Qn ?_;refine A0.ff rfl (A0.kk (u2 _ _ ?_));clear u2 O;refine lT Qn ?_;exact⟨(),by rw[tk,Gg];exact E,(by simp[sle,Ax,Ag,An]),by rw[tk,Gg];simp[ble,A7,C5]⟩
 intro _ E;rw[De,Vf]at E;rw[<-E]at u1 |-;clear E;refine Ai B3 Qn λO u2=>?_;refine A0.ss rfl ?_;simp only[A4,Ab,Ae];refine u1 _ _<|sR Qn ?_;exact aR
def Pe(p:Prog)(env:List Am)(s:A5):Option Int:=match Zm p env s.A1 with
 |some q=>some q
 |none=>match Vf p (env++s.A1) [] s.params with
  |some q=>some q
  |none=>Bt p (env++s.A1) s.result
abbrev Me:List Nat:=[0,1,2,3,5,6,7,8,9,10,22,29,39]
def D6h(p:Prog)(h:p.Sm)(env:List Am)(s:A5)(L:env.length+s.A1.length<=sm)(he:∀f,f∈env->f.Sm)(hs:s.Sm) :
  Ac prog 182 [D7 p,.d (.slice (Ar env)),Ea s] (Lr (Ib (Pe p env s))):=by
 have J:∀f,f∈env++s.A1->f.Sm:=λf I=>by
  rcases D2.1 I with h|h
  .exact he f h
  .exact hs.A1.2 f h
 have O:(env++s.A1).length<=sm:=by rw[Bz];exact L
 have M:=C5a env s.A1 (by omega) (by omega);have U:=D6b p h env s.A1 L he hs.A1.2;have W:=D1e p h (env++s.A1) O J s.params hs.params.1 hs.params.2;have V:=A8h p h (env++s.A1) O J s.result hs.result;generalize hR:Pe p env s=R;refine cB func182 ?_;refine sR Me ?_;cases I:Zm p env s.A1 with
 |some q =>
  rw[I]at U;obtain rfl:R=some q:=by rw[<-hR];unfold Pe;rw[I]
  refine sC U Me ?_;refine sC M Me ?_;refine kR Me λE u1=>?_;refine A0.ff rfl (A0.kk (u1 _ _ ?_));clear u1 E;refine kR Me λE u1=>?_;refine tI ?_;refine sR Me ?_;exact aR
 |none =>
  rw[I]at U;refine sC U Me ?_;refine sC M Me ?_;refine kR Me λE u1=>?_;cases hp:Vf p (env++s.A1) [] s.params with
  |some q =>
   rw[hp]at W;obtain rfl:R=some q:=by rw[<-hR];unfold Pe;rw[I];simp only[hp]
   refine A0.tt rfl ?_
   (refine lV Me λK z=>?_;refine cc W ?_;apply z;clear z K;try simp only[A4,])
   refine u1 _ _ ?_;clear u1 E;refine kR Me λE u1=>?_;refine tI ?_;refine sR Me ?_;exact aR
  |none =>
   rw[hp]at W;refine A0.tt rfl ?_
   (refine lV Me λK z=>?_;refine cc W ?_;apply z;clear z K;try simp only[A4,])
   refine u1 _ _ ?_;clear u1 E;refine kR Me λE u1=>?_;refine kI u1 ?_;clear u1 E;cases Z:Bt p (env++s.A1) s.result with
   |some q =>
    rw[Z]at V;obtain rfl:R=some q:=by rw[<-hR];unfold Pe;rw[I];simp only[hp,Z]
    refine sC V Me ?_;refine kR Me λE u1=>?_;refine tI ?_;refine sR Me ?_;exact aR
   |none =>
    rw[Z]at V;obtain rfl:R=none:=by rw[<-hR];unfold Pe;rw[I];simp only[hp,Z]
    refine sC V Me ?_;refine kR Me λE u1=>?_;refine kI u1 ?_;refine sR Me ?_;exact aR
structure C3 where
 p:Prog
 strict:Bool
 env:List Am
 vars:List Param
def ty0:Ty:=.mk [] [] 0
def L4(n:Int):Ty × Fj:=(ty0,Mm n)
def T1(z:Ty × Fj):Ty × Fj:=if z.2.bad=false/\400<z.1.count 0 then(ty0,⟨0,true,true⟩)else z
def Hk(c:C3)(x:Ty):Bool:=decide (Ez c.env x<0) && Ch c.p x 1
def A4n(c:C3)(x:Ty):Bool:=decide (0<=Ez c.env x) ||Ch c.p x 2
def V4(c:C3)(E:Ty)(e:Ex)(z:Ty × Fj):Fj:=if z.2.bad=false/\Dd c.p c.env z.1 E=false then Mm e.pos else z.2
def L9(c:C3):List Ty->List Ex->List (Ty × Fj)->Fj
 |w::I,e::es,z::E=>if(V4 c w e z).bad=true then V4 c w e z else L9 c I es E
 |_,_,_=>Pm
def Ly(c:C3)(e:Ex)(x:Ty):Int ⊕ A5 :=
 match(D8 c.p c.env x)[(Gj (D8 c.p c.env x) e.name).toNat]? with
 |none=>.inl e.pos
 |some s=>if Gj (D8 c.p c.env x) e.name<0\/s.A1.length≠e.targs.length then .inl e.pos else
  match Je c.p c.env e.targs with
  |some q=>.inl q
  |none=>if 0<=G4 c.p c.env s.A1 e.targs then .inl ((e.targs[(G4 c.p c.env s.A1 e.targs).toNat]?).getD default).pos else
   if e.kids.length≠s.params.length+1 then .inl e.pos else .inr s
def Tf(s:A5)(a:List Ty):List Ty:=s.params.map λf=>f.type.subst (Af s.A1) a
def A7m(c:C3)(e:Ex)(x:Ty)(E:List (Ty × Fj)):Ty × Fj:=match Ly c e x with
 |.inl q=>L4 q
 |.inr s=>T1 (s.result.subst (Af s.A1) e.targs,L9 c (Tf s e.targs) e.kids.tail E)
def G7(l:List Param)(E:A3):Int:=Dq (λf:Param=>decide (f.name=E)) l
def A1a(c:C3)(e:Ex)(x:Ty)(r:Fj):Ty × Fj :=
 if Hk c x=false then L4 e.pos else
 match(Bh c.p x)[(G7 (Bh c.p x) e.name).toNat]? with
 |some f=>if G7 (Bh c.p x) e.name<0 then L4 e.pos else T1 (f.type,r)
 |none=>L4 e.pos
def Zs(c:C3)(x:Ty):Ty:=(Cm c.env x).getD x
def T0(c:C3)(x y:Ty):Bool:=A4n c x && (A4n c y ||Dd c.p c.env y (Zs c x))
def B6t(c:C3)(e:Ex)(x:Ty)(r:Fj):Ty × Fj:=match Bt c.p c.env e.type with
 |some q=>L4 q
 |none=>if c.strict=true/\T0 c x e.type=false then L4 e.pos else(e.type,r)
def A6i(c:C3)(e:Ex):Ty × Fj:=match c.vars[(G7 c.vars e.name).toNat]? with
 |some f=>if G7 c.vars e.name<0 then L4 e.pos else(f.type,Pm)
 |none=>L4 e.pos
def B5p(c:C3)(e:Ex)(E:List (Ty × Fj)):Ty × Fj:=match Bt c.p c.env e.type with
 |some q=>L4 q
 |none=>if Hk c e.type=false\/(Bh c.p e.type).length≠e.kids.length then L4 e.pos else(e.type,L9 c ((Bh c.p e.type).map (·.type)) e.kids E)
def A2m(c:C3)(e:Ex)(E:List (Ty × Fj)):Ty × Fj :=
 if e.kind=1 then A6i c e else if e.kind=3 then B5p c e E else
 if e.kind≠2/\e.kind≠4/\e.kind≠5 then L4 e.pos else
 match E with
 |[]=>L4 e.pos
 |z::E=>if z.2.bad=true then z else if e.kind=2 then A7m c e z.1 E else if e.kind=4 then A1a c e z.1 z.2 else B6t c e z.1 z.2
mutual
def Di(c:C3):Ex->Ty × Fj
 |.mk k n t a ks q=>A2m c (.mk k n t a ks q) (B3i c ks)
def B3i(c:C3):List Ex->List (Ty × Fj)
 |[]=>[]
 |e::es=>Di c e::B3i c es
end
def E1k(c:C3):∀l,B3i c l=l.map (Di c)
 |[]=>by rw[B3i];rfl
 |e::es=>by rw[B3i,E1k c es];rfl
def C3b(c:C3)(e:Ex):Di c e=A2m c e (e.kids.map (Di c)):=by cases e with|mk k n t a ks q=>rw[Di,E1k];rfl
abbrev TO:=Ty × Option Int
def Fc(n:Int):TO:=(ty0,some n)
def Wp(c:C3)(E:Ty)(e:Ex)(z:TO):Option Int:=match z.2 with
 |some q=>some q
 |none=>if Dd c.p c.env z.1 E=true then none else some e.pos
def Ko(c:C3):List Ty->List Ex->List TO->Option Int
 |w::I,e::es,z::E=>match Wp c w e z with
  |some q=>some q
  |none=>Ko c I es E
 |_,_,_=>none
def Yb(o:Option Int)(t:Ty):TO:=match o with
 |some q=>Fc q
 |none=>(t,none)
def W6(c:C3)(e:Ex)(x:Ty)(E:List TO):TO:=match Ly c e x with
 |.inl q=>Fc q
 |.inr s=>Yb (Ko c (Tf s e.targs) e.kids.tail E) (s.result.subst (Af s.A1) e.targs)
def Xb(c:C3)(e:Ex)(x:Ty):TO :=
 if Hk c x=false then Fc e.pos else
 match(Bh c.p x)[(G7 (Bh c.p x) e.name).toNat]? with
 |some f=>if G7 (Bh c.p x) e.name<0 then Fc e.pos else(f.type,none)
 |none=>Fc e.pos
def Wb(c:C3)(e:Ex)(x:Ty):TO:=match Bt c.p c.env e.type with
 |some q=>Fc q
 |none=>if c.strict=true/\T0 c x e.type=false then Fc e.pos else(e.type,none)
def Wv(c:C3)(e:Ex):TO:=match c.vars[(G7 c.vars e.name).toNat]? with
 |some f=>if G7 c.vars e.name<0 then Fc e.pos else(f.type,none)
 |none=>Fc e.pos
def X5(c:C3)(e:Ex)(E:List TO):TO:=match Bt c.p c.env e.type with
 |some q=>Fc q
 |none=>if Hk c e.type=false\/(Bh c.p e.type).length≠e.kids.length then Fc e.pos else Yb (Ko c ((Bh c.p e.type).map (·.type)) e.kids E) e.type
def P4(c:C3)(e:Ex)(E:List TO):TO :=
 if e.kind=1 then Wv c e else if e.kind=3 then X5 c e E else
 if e.kind≠2/\e.kind≠4/\e.kind≠5 then Fc e.pos else
 match E with
 |[]=>Fc e.pos
 |z::E=>match z.2 with
  |some q=>Fc q
  |none=>if e.kind=2 then W6 c e z.1 E else if e.kind=4 then Xb c e z.1 else Wb c e z.1
mutual
def Bw(c:C3):Ex->TO
 |.mk k n t a ks q=>P4 c (.mk k n t a ks q) (B4p c ks)
def B4p(c:C3):List Ex->List TO
 |[]=>[]
 |e::es=>Bw c e::B4p c es
end
def E2y(c:C3):∀l,B4p c l=l.map (Bw c)
 |[]=>by rw[B4p];rfl
 |e::es=>by rw[B4p,E2y c es];rfl
def A9d(c:C3)(e:Ex):Bw c e=P4 c e (e.kids.map (Bw c)):=by cases e with|mk k n t a ks q=>rw[Bw,E2y];rfl
def A9z(a:Ty × Fj)(b:TO):Prop:=a.2.Cv=true/\a.2.bad=true\/a.2.Cv=false/\(a.2.bad=true/\b.2=some a.2.pos\/a.2.bad=false/\a.2.pos=0/\b=(a.1,none))
def A9z.no(n:Int):A9z (L4 n) (Fc n):=.inr ⟨rfl,.inl ⟨rfl,rfl⟩⟩
def C8k{c:C3}:∀(I:List Ty)(es:List Ex)(E:List (Ty × Fj))(ys:List TO),E.length=ys.length->(∀(i:Nat)(z:Ty × Fj)(y:TO),E[i]?=some z->ys[i]?=some y->A9z z y) ->
  (L9 c I es E).Cv=true/\(L9 c I es E).bad=true\/(L9 c I es E).Cv=false/\((L9 c I es E).bad=true/\Ko c I es ys=some (L9 c I es E).pos\/(L9 c I es E).bad=false/\(L9 c I es E).pos=0/\Ko c I es ys=none)
 |[],es,E,ys,_,_=>by cases es <;> cases E <;> cases ys <;> simp[L9,Ko,Pm]
 |_::_,[],E,ys,_,_=>by cases E <;> cases ys <;> simp[L9,Ko,Pm]
 |_::_,_::_,[],[],_,_=>by simp[L9,Ko,Pm]
 |_::_,_::_,[],_::_,h,_=>by simp at h
 |_::_,_::_,_::_,[],h,_=>by simp at h
 |w::I,e::es,z::E,y::ys,V,h=>by
  have O:=h 0 z y rfl rfl;have W:=C8k (c:=c) I es E ys (by simpa using V) λi a b L J=>h (i+1) a b (by simpa using L) (by simpa using J);rw[L9,Ko];unfold V4 Wp;rcases O with⟨L,J⟩|⟨L,⟨J,M⟩|⟨J,M,U⟩⟩
  .rw[J];simp[L,J]
  .rw[J,M];simp[L,J]
  .subst U;cases Z:Dd c.p c.env z.1 w with
   |false=>simp[J,Mm]
   |true=>simp only[J,Qi,Bool.true_eq_false,Fy,I6,Ae];exact W
def D4c(c:C3):∀e:Ex,A9z (Di c e) (Bw c e):=by
 intro e
 induction e using Ex.induct with|_ e ih=>?_
 rw[C3b,A9d];unfold A2m P4;by_cases k1:e.kind=1
 .rw[A9 k1,A9 k1];unfold A6i Wv;split
  .split
   .exact .no _
   .exact .inr ⟨rfl,.inr ⟨rfl,rfl,rfl⟩⟩
  .exact .no _
 rw[A6 k1,A6 k1];have Z:∀(l:List Ex),(∀x,x∈l->x∈e.kids)->∀(i:Nat) z y,(l.map (Di c))[i]?=some z->(l.map (Bw c))[i]?=some y->A9z z y:=by intro l hl i z y I E;rw[Db,N9]at I E;obtain⟨a,V,rfl⟩:=I;obtain⟨b,W,rfl⟩:=E;rw[V]at W;cases W;exact ih a (hl a (Br V))
 by_cases k3:e.kind=3
 .rw[A9 k3,A9 k3];unfold B5p X5;split
  .exact .no _
  .split
   .exact .no _
   .rcases C8k (c:=c) ((Bh c.p e.type).map (·.type)) e.kids _ _ (by simp) (Z e.kids λ_ h=>h)with⟨I,E⟩|⟨I,⟨E,J⟩|⟨E,J,L⟩⟩
    .exact .inl ⟨I,E⟩
    .exact .inr ⟨I,.inl ⟨E,by rw[J];rfl⟩⟩
    .exact .inr ⟨I,.inr ⟨E,J,by rw[L];rfl⟩⟩
 rw[A6 k3,A6 k3];by_cases k2:e.kind≠2/\e.kind≠4/\e.kind≠5
 .rw[A9 k2,A9 k2];exact .no _
 rw[A6 k2,A6 k2];cases M:e.kids with
 |nil=>exact .no _
 |cons v vs =>
  simp only[Ck];have hv:=ih v (by rw[M];simp);rcases hv with⟨I,E⟩|⟨I,⟨E,J⟩|⟨E,J,L⟩⟩
  .rw[A9 E];exact .inl ⟨I,E⟩
  .rw[A9 E,J];exact .inr ⟨I,.inl ⟨E,rfl⟩⟩
  .have hz:(Di c v).2=Pm:=by
    cases hr:(Di c v).2 with|mk a b d=>rw[hr]at I E J;simp only at I E J;rw[I,E,J];rfl
   rw[A6 (by rw[E];simp),L,hz];simp only;by_cases O:e.kind=2
   .rw[A9 O,A9 O];unfold A7m W6;split
    .exact .no _
    .rename_i s hs;rcases C8k (c:=c) (Tf s e.targs) e.kids.tail _ _ (by simp) (Z vs λx hx=>by rw[M];simp[hx])with⟨I,E⟩|⟨I,⟨E,J⟩|⟨E,J,L⟩⟩
     .unfold T1;rw[A6 (by simp[E])];exact .inl ⟨I,E⟩
     .unfold T1;rw[A6 (by simp[E]),J];exact .inr ⟨I,.inl ⟨E,rfl⟩⟩
     .rw[L];unfold T1;split
      .exact .inl ⟨rfl,rfl⟩
      .exact .inr ⟨I,.inr ⟨E,J,rfl⟩⟩
   rw[A6 O,A6 O];by_cases U:e.kind=4
   .rw[A9 U,A9 U];unfold A1a Xb;split
    .exact .no _
    .split
     .split
      .exact .no _
      .unfold T1;split
       .exact .inl ⟨rfl,rfl⟩
       .exact .inr ⟨rfl,.inr ⟨rfl,rfl,rfl⟩⟩
     .exact .no _
   .rw[A6 U,A6 U];unfold B6t Wb;split
    .exact .no _
    .split
     .exact .no _
     .exact .inr ⟨rfl,.inr ⟨rfl,rfl,rfl⟩⟩
def B9z{c:C3}{e:Ex}(h:(Di c e).2.bad=false):Bw c e=((Di c e).1,none):=by
 rcases D4c c e with⟨_,E⟩|⟨_,⟨E,_⟩|⟨_,_,I⟩⟩
 .rw[h]at E;cases E
 .rw[h]at E;cases E
 .exact I
def E5(l:List A3):List Ty:=l.map λv=>.mk v [] 0
def Ga(p:Prog)(d:Decl):List Am:=((Ey p d.name).zip d.vars).map λz=>⟨z.2,z.1.bound.subst (Af (Ey p d.name)) (E5 d.vars),z.1.pos⟩
def Yn(p:Prog)(env:List Am)(pre:List A3):List A5->Option Int
 |[]=>none
 |s::ss=>if s.name∈pre then some s.pos else match Pe p env s with
  |some q=>some q
  |none=>Yn p env (pre++[s.name]) ss
def B2v(p:Prog)(i:Nat)(d:Decl):Option Int :=
 if findD d.name p.decls 0≠(i:Int)then some d.pos else
 match Zm p [] d.A1 with
 |some q=>some q
 |none=>if d.kind=1 then(match Vf p d.A1 [] d.fields with
   |some q=>some q
   |none=>if d.name∈B0b p d.name then some d.pos else none)else Yn p d.A1 [] d.sigs
def A0q(p:Prog)(pre:List A3):List A3->Bool
 |[]=>false
 |v::vs=>decide (kindOf p v≠0\/v∈pre) ||A0q p (pre++[v]) vs
def E2k(d:Decl):Option Int->Option Int
 |some q=>some q
 |none=>(d.sig.params.find? λf=>decide (f.name=d.recv)).map (·.pos)
def B3p(p:Prog)(i:Nat)(d:Decl):Option Int :=
 if kindOf p d.name≠1\/d.vars.length≠(Ey p d.name).length then some d.pos else
 if A0q p [] d.vars=true then some d.pos else
 if P3 p d.name d.sig.name≠(i:Int)then some d.pos else
 E2k d (Pe p (Ga p d) d.sig)
def Zj(p:Prog)(i:Nat)(d:Decl):Option Int:=if d.kind=1\/d.kind=2 then B2v p i d else if d.kind=3 then B3p p i d else some d.pos
def B0r(d:Decl):Ty:=.mk d.name (E5 d.vars) 0
def H3(p:Prog)(st:Bool)(d:Decl):C3:=⟨p,st,Ga p d++d.sig.A1,⟨d.recv,B0r d,0⟩::d.sig.params⟩
def A5h(p:Prog)(st:Bool)(d:Decl):Fj:=if d.kind=3 then V4 (H3 p st d) d.sig.result d.body (Di (H3 p st d) d.body)else Pm
def A1m(p:Prog)(st:Bool):List Decl->Nat->Fj
 |[],_=>(Di ⟨p,st,[],[]⟩ p.main).2
 |d::ds,i=>match Zj p i d with
  |some q=>Mm q
  |none=>if(A5h p st d).bad=true then A5h p st d else A1m p st ds (i+1)
def A8o(p:Prog)(st:Bool):Fj:=A1m p st p.decls 0
def E4m{p:Prog}{st:Bool}:∀{l:List Decl} {i:Nat},(A1m p st l i).bad=false->∀(k:Nat)(d:Decl),l[k]?=some d->Zj p (i+k) d=none/\(A5h p st d).bad=false
 |[],_,_=>by simp
 |x::l,i,h=>by
  intro k d I;rw[A1m]at h;cases J:Zj p i x with
  |some q=>rw[J]at h;cases h
  |none =>
   rw[J]at h;simp only at h;split at h
   .rename_i E;rw[h]at E;cases E
   .rename_i E;cases k with
    |zero=>simp only[Qt,B4]at I;subst I;exact⟨J,by simpa using E⟩
    |succ k =>rw[Xo]at I;have:=E4m h k d I;rw[show i+1+k=i+(k+1) by omega]at this;exact this
abbrev Jk(t:Ty):List SV:=[.d (.str t.name),.d (.slice (Au t.args)),.d (.int .i64 t.pos)]
abbrev Uo(d:Decl):List SV:=[.d (.int .i64 d.kind),.d (.str d.name),.d (.slice (Ar d.A1)),.d (.slice (B9 d.fields)),.d (.slice (C1 d.sigs)),.d (.str d.recv),.d (.slice (C5 d.vars)),.d (.str d.sig.name),.d (.slice (Ar d.sig.A1)),.d (.slice (B9 d.sig.params)),.d (.str d.sig.result.name),.d (.slice (Au d.sig.result.args)),.d (.int .i64 d.sig.result.pos),.d (.int .i64 d.sig.pos),.d (.int .i64 d.body.kind),.d (.str d.body.name),.d (.str d.body.type.name),.d (.slice (Au d.body.type.args)),.d (.int .i64 d.body.type.pos),.d (.slice (Au d.body.targs)),.d (.slice (Ew d.body.kids)),.d (.int .i64 d.body.pos),.d (.int .i64 d.pos)]
mutual
def Bg:Ex->List Ex
 |.mk k n t a ks q=>.mk k n t a ks q::D4 ks
def D4:List Ex->List Ex
 |[]=>[]
 |e::es=>Bg e++D4 es
end
def A1w(e:Ex):Bg e=e::D4 e.kids:=by cases e;rw[Bg];rfl
def A0v:∀a b:List Ex,D4 (a++b)=D4 a++D4 b
 |[],_=>rfl
 |x::a,b=>by simp only[Qp,D4,A0v a b,N6]
def D1c:∀{l:List Ex} {x:Ex},x∈l->(Bg x).length<=(D4 l).length
 |[],_,h=>by simp at h
 |y::l,x,h=>by
  rw[D4,Bz];rcases Aw.1 h with rfl|h
  .omega
  .have:=D1c h;omega
def D8y:∀l:List Ex,l.length<=(D4 l).length
 |[]=>Bi _
 |y::l=>by have:=D8y l;rw[D4,Bz,A1w];simp only[C6];omega
def D2p(l:List Ex)(j:Nat):(D4 (l.take j)).length<=(D4 l).length:=by
 conv=>rhs;rw[<-Ak4 j l,A0v,Bz]
 omega
def A8s{Q:Ex->Prop}(L:∀e:Ex,Q e->∀x,x∈e.kids->Q x):∀e:Ex,Q e->∀x,x∈Bg e->Q x:=by
 intro e
 induction e using Ex.induct with|_ e M=>?_
 intro J x hx;rw[A1w,Aw]at hx;rcases hx with rfl|hx
 .exact J
 have:∀l:List Ex,(∀y,y∈l->y∈e.kids)->x∈D4 l->Q x:=λl=>by
  induction l with
  |nil=>intro _ h;simp[D4]at h
  |cons y l I =>
   intro E h;rw[D4,D2]at h;rcases h with h|h
   .exact M y (E y (by simp)) (L e J y (E y (by simp))) x h
   .exact I (λz hz=>E z (by simp[hz])) h
 exact this e.kids (λ_ h=>h) hx
abbrev A2w:List Nat:=[0,1,2,3,4,6,11]
def C0g:∀e:Ex,(Bg e).length<=sm->Ac prog 73 [D0 e] (.d (.slice (Ew (Bg e)))):=by
 intro e
 induction e using Ex.induct with
 |h e ih =>
 intro O;rw[A1w]at O |-;simp only[C6]at O;have V:=D8y e.kids;refine cB func73 ?_;refine sR A2w ?_
 (refine A0.Ef A2w [6] (by decide +kernel) λK z=>?_;refine ev ?_;apply z;clear z K)
 refine kR A2w λK1 u1=>?_;refine A0.bb (A0.ii e.kids (X:=Unit) (λj _=>[(1,.box 1 0),(3,.acc 6),(4,A8 j)]) (λj _=>[(1,.cells (exS e)),(6,.rows 8 (Ew (e::D4 (e.kids.take j))))])
  (λj _=>True) () trivial sS (by simp[ble,A7,D4,S6,Bu]) ?_ ?_)
 rotate_left
 .intro j _ u hu I dp M L _;have U:=D1c I;have W:=ih u I (by omega);have Z:=D2p e.kids j;have E:=D2p e.kids (j+1);rw[M,A0v]at E;simp only[D4,I8,Bz]at E;rw[M,A0v];simp only[D4,I8];generalize D4 (e.kids.take j)=A at*;generalize Bg u=B at*;refine Ai L A2w λJ u2=>?_;refine gI u2 ?_;clear u2 J;refine sK λJ u2=>A0.bb ?_
  (refine lV A2w λK z=>?_;refine ci (Dn hu) ?_;refine cc W ?_;refine⟨C0a _,by unfold lim sm at*;omega,?_⟩;(try refine ev ?_);apply z;clear z K;try simp only[A4,Ab])
  refine u2 _ _ ?_;clear u2 J;refine lT A2w ?_;exact⟨(),trivial,sS,by simp[ble,A7,S6,Bu]⟩
 intro _ _;rw[Dm];refine Ai B3 A2w λJ u2=>?_;refine A0.ss rfl ?_;simp only[A4,Ab,Ae];refine u1 _ _<|sR A2w ?_;exact aR
end Go.Abs
