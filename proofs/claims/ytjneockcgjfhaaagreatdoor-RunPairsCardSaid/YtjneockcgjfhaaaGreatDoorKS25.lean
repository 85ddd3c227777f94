/- impl.IsInterface, Implements, Bounds; their references -/
import Derived.Test.YtjneockcgjfhaaaGreatDoorKS23
set_option linter.all false
set_option maxHeartbeats 1000000
set_option maxRecDepth 100000
namespace Go.Abs
open Go Go.Proofs Tryz
def F5h{vars:List A2}{args:List Ty}(J:∀u,u∈args->u.Sm){l:List A4}(L:∀s,s∈l->s.Sm)(j:Nat):∀s,s∈Ic vars args l j->s.Sm:=λs hs=>by unfold Ic at hs;obtain⟨⟨x,i⟩,E,rfl⟩:=Au.1 hs;have I:=(Kr.1 E).1;have O:=Mt (Vt I);exact A4.Sm.subst J (L x O).canon
def F4u{p:Prog}(h:p.Sm){env:List Ak}(U:∀f,f∈env->f.Sm){x:Ty}(E:x.Sm):∀s,s∈Cv p env x->s.Sm:=by
 have I:((Ct env x).getD x).Sm:=by
  cases L:Ct env x with
  |none=>exact E
  |some y=>exact C3e U L
 unfold Cv;generalize(Ct env x).getD x=y at*;intro s hs;split at hs;rename_i J;unfold H2 at hs;rw[A6 J]at hs;obtain⟨d,hd,_⟩:=N4 (by decide) J;rw[hd,Dh]at hs;exact F5h I.arg (h.decls.2 d (Qb hd)).sigs.2 _ s hs;split at hs;simp at hs;unfold Gw at hs;obtain⟨⟨d,i⟩,E,rfl⟩:=Au.1 hs;have O:=(Kr.1 E).1;have V:d∈p.decls:=Mt (Vt O);exact A4.Sm.subst I.arg (h.decls.2 d V).sig.canon
def F2j{p:Prog}(h:p.Sm)(env:List Ak)(x:Ty):(Cv p env x).length<=sm:=by unfold Cv;split;exact B9v p h _;split;simp;exact Dd (A7h ..) h.decls.1
def A1h{p:Prog}(h:p.Sm){env:List Ak}(I:∀f,f∈env->f.Sm){x:Ty}(E:x.Sm):∀s,s∈Cd p env x->s.Sm:=λs hs=>F4u h I E s ((Zf _).mem_iff.1 hs)
def Y9{p:Prog}(h:p.Sm)(env:List Ak)(x:Ty):(Cd p env x).length<=sm:=by unfold Cd;rw[(Zf _).length_eq];exact F2j h env x
def isIface(p:Prog)(env:List Ak)(x:Ty):Bool:=Bb p x 2 && !(Ct env x).isSome
abbrev Zp:List Nat:=[0,1,2,5,6,8,10,20]
def F8k(p:Prog)(h:p.Sm)(env:List Ak)(J:env.length<=sm)(O:∀f,f∈env->f.Sm)(x:Ty)(L:x.Sm):Ab prog 210 [.Aj (G1 p) 0,.d (.slice (Ax env)),Be x] (B1 (isIface p env x)):=by
 have I:=D5z env x J O;have E:=C4t p h x L;unfold isIface;generalize Ct env x=o at*;generalize Bb p x 2=bb at*;refine cB func210 ?_;refine sR Zp ?_;cases o with
 |none =>simp only[B4k]at I;refine sC I Zp ?_;refine A0.F9 Zp [20] (by decide +kernel) λK z=>?_;refine ev ?_;refine⟨_,_,_,_,_,rfl,E,?_⟩;(try refine ev ?_);apply z;clear z K;cases bb;refine sR Zp ?_;exact aR;refine sR Zp ?_;exact aR
 |some y =>simp only[B4k]at I;refine sC I Zp ?_;refine A0.F9 Zp [20] (by decide +kernel) λK z=>?_;refine ev ?_;refine⟨_,_,_,_,_,rfl,E,?_⟩;(try refine ev ?_);apply z;clear z K;cases bb;refine sR Zp ?_;exact aR;refine sR Zp ?_;exact aR
def D3p(env:List Ak)(x:Ty):(Ct env x).isSome = !decide (Fi env x<0):=by unfold Ct;split;rename_i E;simp[E];rename_i E;obtain⟨f,I,_⟩:=A7k E;simp[I,E]
def E2x(p:Prog)(env:List Ak)(I:env.length<=sm)(x:Ty):Ab prog 110 [Cq p,.d (.slice (Ax env)),Be x] (B1 (isIface p env x)):=by
 have J:=B0h env x I;have L:=A0m p x 2;unfold isIface;rw[D3p];generalize Fi env x=k at*;generalize Bb p x 2=bb at*;refine cB func110 ?_;refine sR [0,1,2,3,5,6] ?_;by_cases E:k<0
 ·(refine sV [0,1,2,3,5,6] λK z=>?_;refine⟨_,.inl ⟨_,rfl,J,rfl⟩,?_⟩;(try refine Ah E ?_);refine cc L ?_;apply z;clear z K)
  simp only[E,Ra,At6,Au3,Ar5];exact aR
 ·(refine sV [0,1,2,3,5,6] λK z=>?_;refine⟨_,.inl ⟨_,rfl,J,rfl⟩,?_⟩;(try refine Ah E ?_);apply z;clear z K)
  simp only[E,Zj,At6,Au3,Sf];exact aR
def Cg(p:Prog)(env:List Ak)(t i:Ty):Bool:=if isIface p env i=true then decide (J4 (Cd p env t) (Cd p env i)=[])else Ns t i
abbrev q2V:List Nat:=[0,1,2,3,6,7,8,13]
def H0e(p:Prog)(h:p.Sm)(env:List Ak)(E:env.length<=sm)(I:∀f,f∈env->f.Sm)(t i:Ty)(ht:t.Sm)(J:i.Sm):Ab prog 181 [.Aj (G1 p) 0,.d (.slice (Ax env)),Be t,Be i] (B1 (Cg p env t i)):=by have L:=F8k p h env E I i J;have W:=A9o t i ht;have O:=D5a p h env E I t ht;have V:=D5a p h env E I i J;have U:=E8z (Cd p env t) (Cd p env i) (Y9 h env t) (Y9 h env i) (A1h h I ht) (A1h h I J);unfold Cg;generalize isIface p env i=bb at*;generalize Cd p env t=l at*;generalize Cd p env i=m at*;refine cB func181 ?_;refine sR q2V ?_;cases bb;rw[A3 (by decide)];refine kC L q2V λZ u1=>?_;refine tI ?_;refine sC W q2V ?_;exact aR;rw[A6 rfl];refine kC L q2V λZ u1=>?_;refine kI u1 ?_;refine sG q2V [] 7 [] λK z=>?_;refine ev ?_;refine cc O ?_;refine cc V ?_;refine cc U ?_;apply z;clear z K;exact aR
abbrev q3V:List Nat:=[0,1,2,3,4,6,7,8,12]
def A6r(p:Prog)(h:p.Sm)(env:List Ak)(E:env.length<=sm)(J:∀f,f∈env->f.Sm)(t i:Ty)(ht:t.Sm)(O:i.Sm):Ab prog 47 [Cq p,.d (.slice (Ax env)),Be t,Be i] (B1 (Cg p env t i)):=by
 have I:=E2x p env E i;have Z:=E9g t i ht;have U:=A6n p h env E J t ht;have W:=A6n p h env E J i O;have V:=F0y (Cd p env t) (Cd p env i) (Y9 h env t) (Y9 h env i) (A1h h J ht) (A1h h J O);unfold Cg;generalize isIface p env i=bb at*;generalize Cd p env t=l at*;generalize Cd p env i=m at*;have e:decide (((J4 l m).length:Int)=0)=decide (J4 l m=[]):=by
  by_cases L:J4 l m=[];simp[L]
  .have I:¬((J4 l m).length:Int)=0:=by have:=List.length_pos_iff.2 L;omega
   rw[Cu L,Cu I]
 rw[<-e];generalize J4 l m=z at*;refine cB func47 ?_;refine sR q3V ?_;cases bb;rw[A3 (by decide)];refine kC I q3V λK1 u1=>?_;refine kI u1 ?_;refine sC Z q3V ?_;exact aR;rw[A6 rfl];refine kC I q3V λK1 u1=>?_;refine tI ?_;refine sG q3V [] 7 [] λK z=>?_;refine ev ?_;refine cc U ?_;refine cc W ?_;refine cc V ?_;apply z;clear z K;exact aR
def A5f(p:Prog)(env fs:List Ak)(args:List Ty)(z:Ak × Ty):Bool:=!Cg p env z.2 (z.1.bound.subst (Ad fs) args)
def Hi(p:Prog)(env fs:List Ak)(args:List Ty):Int:=Cw (A5f p env fs args) (fs.zip args)
def F3a{α β:Type}{l:List α}{m:List β}{j:Nat}{a:α}{b:β}(I:l[j]?=some a)(E:m[j]?=some b):(l.zip m).take (j+1)=(l.zip m).take j++[(a,b)]/\(l.zip m)[j]?=some (a,b):=by
 have h:(l.zip m)[j]?=some (a,b):=by rw[Am3];exact⟨I,E⟩
 refine⟨?_,h⟩;rw[Au5,h];rfl
abbrev q4V:List Nat:=[0,1,2,3,4,8,9,13,32]
def D0q(p:Prog)(h:p.Sm)(env:List Ak)(a1:env.length<=sm)(he:∀f,f∈env->f.Sm)(fs:List Ak)(a0:fs.length<=sm)(hf:∀f,f∈fs->f.Sm)(args:List Ty)(a5:args.length=fs.length)(U:∀u,u∈args->u.Sm) :Ab prog 148 [Cq p,.d (.slice (Ax env)),.d (.slice (Ax fs)),Co args] (A7 (Hi p env fs args)):=by
 have E:=Qh fs a0;unfold Hi;refine cB func148 ?_;refine sR q4V ?_;refine kR q4V λK1 u1=>?_;refine A0.bb (A0.ii fs (X:=Unit) (λj _=>[(1,.d (.slice (Ax env))),(2,.d (.slice (Ax fs))),(3,Co args),(4,.box 4 0),(9,A7 j)]) (λ_ _=>[(4,.cells ((Ai p).map .d))]) (λj _=>∀y,y∈(fs.zip args).take j->A5f p env fs args y=false) () (by simp) sS (by simp[ble,A8,Ai]) ?_ ?_);intro _ L;rw[Ym (by rw[Aq4];omega)]at L;refine Ae B6 q4V λO u2=>?_;refine A0.ss rfl ?_;simp only[A5,A9,Ac];refine u1 _ _<|sR q4V ?_;rw[Tb L];exact aR
 .intro j _ d hd I dp tk a2 L;obtain⟨u,W,_⟩:=A0f (l:=args) (j:=j) (by omega);have a4:=Bm W;obtain⟨a3,Z⟩:=F3a hd W;have J:=Q0 (Ad fs) args U d.bound (hf d I).bound;have V:=A6r p h env a1 he u (d.bound.subst (Ad fs) args) (U u a4) (Ty.Sm.subst U _ (hf d I).bound);have hq:A5f p env fs args (d,u) = !Cg p env u (d.bound.subst (Ad fs) args):=rfl;generalize Cg p env u (d.bound.subst (Ad fs) args)=bb at*;refine Ae a2 q4V λO u2=>?_;refine gI u2 ?_;clear u2 O;refine sK λO u2=>A0.bb ?_;refine sG q4V [] 15 [] λK z=>?_;refine ev ?_;refine ci (Ev W) ?_;refine ci (Fc hd) ?_;refine cc E ?_;refine cc J ?_;refine cc V ?_;apply z;clear z K;cases bb;refine A0.tt rfl<|sR q4V ?_;rw[Sc Z hq L];exact aR
  refine A0.ff rfl (A0.kk (u2 _ _ ?_));clear u2 O;refine lT q4V ?_;refine⟨(),?_,sS,(by simp[ble,A8,Ai])⟩;rw[a3];intro y hy;rcases C6.1 hy with hy|hy;exact L y hy;simp only[B5,Fb,Fg]at hy;rw[hy];exact hq
mutual
def Bx(p:Prog)(env:List Ak):Ty->Option Int
 |.mk n a pos=>if(Ct env (.mk n a pos)).isSome=true then none else if kindOf p n=0\/(Ey p n).length≠a.length then some pos else
   match P3 p env a with
   |some q=>some q
   |none=>if 0<=Hi p env (Ey p n) a then some ((a[(Hi p env (Ey p n) a).toNat]?).getD default).pos else none
def P3(p:Prog)(env:List Ak):List Ty->Option Int
 |[]=>none
 |t::E=>match Bx p env t with
  |some q=>some q
  |none=>P3 p env E
end
def D4h(p:Prog)(env:List Ak)(x:Ty):Bx p env x=if(Ct env x).isSome=true then none else if kindOf p x.name=0\/(Ey p x.name).length≠x.args.length then some x.pos else
   match P3 p env x.args with
   |some q=>some q
   |none=>if 0<=Hi p env (Ey p x.name) x.args then some ((x.args[(Hi p env (Ey p x.name) x.args).toNat]?).getD default).pos else none:=by cases x with|mk n a pos=>rw[Bx];rfl
def C1x{p:Prog}(h:p.Sm)(nm:A2):(Ey p nm).length<=sm/\∀f,f∈Ey p nm->f.Sm:=by
 unfold Ey;cases E:Fk p nm with
 |none=>simp
 |some d=>exact(h.decls.2 d (Qb E)).A1
def E1t{p:Prog}{env fs:List Ak}{a:List Ty}(h:0<=Hi p env fs a)(J:a.length=fs.length):∃u,a[(Hi p env fs a).toNat]?=some u:=by unfold Hi at*;rcases Lo (A5f p env fs a) (fs.zip a)with⟨E,_⟩|⟨j,z,E,I,_⟩;omega;rw[E];have:=(Aw.1 I).1;rw[Aq4]at this;exact⟨_,Br (by omega)⟩
def Tz:Option Int->SV
 |some q=>.tuple [A7 q,B1 true]
 |none=>.tuple [A7 0,B1 false]
abbrev Hh:List Nat:=[0,1,2,3,5,6,7,8,9,10,11,12,16,33,40,54,63]
def A9i(p:Prog)(h:p.Sm)(env:List Ak)(a3:env.length<=sm)(he:∀f,f∈env->f.Sm):∀x:Ty,x.Sm->Ab prog 93 [Cq p,.d (.slice (Ax env)),Be x] (Tz (Bx p env x)):=by
 intro x
 induction x using Ty.induct with
 |h x ih =>
 intro hx;have hf:=B0h env x a3;have a1:=B8z p x.name;have Z:=A8z p x.name;obtain⟨a6,a4⟩:=C1x h x.name;have V:=D0q p h env a3 he (Ey p x.name) a6 a4 x.args;have a0:=@E1t p env (Ey p x.name) x.args;have a8:=hx.len;rw[D4h,D3p];generalize Fi env x=z at*;generalize Ey p x.name=fs at*;generalize kindOf p x.name=k at*;by_cases hz:z<0
 .rw[A3 (by simp[hz])];have J:¬z >= 0:=by omega
  by_cases hk:k=0
  .rw[A6 (.inl hk)];refine cB func93 ?_;refine sR Hh<|sK λI u1=>?_
   (refine sV Hh λK z=>?_;refine⟨_,.inl ⟨_,rfl,hf,rfl⟩,?_⟩;(try refine Ah J ?_);apply z;clear z K)
   refine kI u1 ?_;clear u1 I;refine sC a1 Hh<|sK λI u1=>?_
   (refine sV Hh λK z=>?_;refine⟨_,.inl ⟨_,rfl,Z,rfl⟩,?_⟩;(try refine Ah hk ?_);apply z;clear z K)
   refine tI ?_;refine sR Hh ?_;exact aR
  .by_cases O:fs.length=x.args.length
   .have E:(fs.length:Int)=x.args.length:=by omega
    have V:=V O.symm hx.arg;have a0:=λhh=>a0 hh O.symm;rw[A3 (by rintro(h1|h1) <;> contradiction)];generalize Hi p env fs x.args=b at*;generalize a5:P3 p env x.args=oc;refine cB func93 ?_;refine sR Hh<|sK λI u1=>?_
    (refine sV Hh λK z=>?_;refine⟨_,.inl ⟨_,rfl,hf,rfl⟩,?_⟩;(try refine Ah J ?_);apply z;clear z K)
    refine kI u1 ?_;clear u1 I;refine sC a1 Hh<|sK λI u1=>?_
    (refine sV Hh λK z=>?_;refine⟨_,.inl ⟨_,rfl,Z,rfl⟩,?_⟩;(try refine Du hk E ?_);apply z;clear z K)
    refine kI u1 ?_;clear u1 I;refine kR Hh λI u1=>?_;refine A0.bb (A0.ii x.args (X:=Unit) (λj _=>[(1,.d (.slice (Ax env))),(3,.box 3 0),(5,.box 5 0),(8,.d (.slice (Ax fs))),(9,A7 j)]) (λ_ _=>[(3,.cells ((Ai p).map .d)),(5,.cells ((Bs x).map .d))]) (λj _=>P3 p env (x.args.drop j)=oc) () a5 sS (by simp[ble,A8,Bs,Ai]) ?_ ?_)
    .intro _ U;rw[D3,P3]at U;subst U;simp only;refine Ae B6 Hh λK2 u2=>?_;refine A0.ss rfl ?_;simp only[A5,A9,Ac];refine u1 _ _ ?_;clear u2 K2 u1 I;by_cases L:0<=b
     .obtain⟨u,hu⟩:=a0 L;have a2:b >= 0:=L;rw[A6 L,hu,Dh];refine sC V Hh ?_;refine Ae a2 Hh λI u1=>?_;refine tI ?_
      (refine sV Hh λK z=>?_;refine ci (Ev hu) ?_;apply z;clear z K)
      exact aR
     .have a2:¬b >= 0:=L;rw[A3 L];refine sC V Hh ?_;refine Ae a2 Hh λI u1=>?_;refine kI u1 ?_;refine sR Hh ?_;exact aR
    .intro j _ d hd W dp tk a7 U;have hc:=ih d W (hx.arg d W);rw[dp,P3]at U;refine Ae a7 Hh λK2 u2=>?_;refine gI u2 ?_;clear u2 K2;refine sK λK2 u2=>A0.bb ?_;cases ho:Bx p env d with
     |none =>
      rw[ho]at hc U;simp only[Tz]at hc U
      (refine sG Hh [] 12 [] λK z=>?_;refine ev ?_;refine ci (Ev hd) ?_;refine cc hc ?_;apply z;clear z K)
      refine sR Hh ?_;refine A0.ff rfl (A0.kk (u2 _ _ ?_));clear u2 K2;refine lT Hh ?_;exact⟨(),U,sS,(by simp[ble,A8,Bs,Ai])⟩
     |some q =>
      rw[ho]at hc U;simp only[Tz]at hc U
      (refine sG Hh [] 12 [] λK z=>?_;refine ev ?_;refine ci (Ev hd) ?_;refine cc hc ?_;apply z;clear z K)
      refine sR Hh ?_;refine A0.tt rfl<|sR Hh ?_;subst U;exact aR
   .have E:¬(fs.length:Int)=x.args.length:=by omega
    rw[A6 (.inr O)];refine cB func93 ?_;refine sR Hh<|sK λI u1=>?_
    (refine sV Hh λK z=>?_;refine⟨_,.inl ⟨_,rfl,hf,rfl⟩,?_⟩;(try refine Ah J ?_);apply z;clear z K)
    refine kI u1 ?_;clear u1 I;refine sC a1 Hh<|sK λI u1=>?_
    (refine sV Hh λK z=>?_;refine⟨_,.inl ⟨_,rfl,Z,rfl⟩,?_⟩;(try refine Du hk E ?_);apply z;clear z K)
    refine tI ?_;refine sR Hh ?_;exact aR
 .have J:z >= 0:=by omega
  rw[A6 (by simp[hz])];refine cB func93 ?_;refine sR Hh<|sK λI u1=>?_
  (refine sV Hh λK z=>?_;refine⟨_,.inl ⟨_,rfl,hf,rfl⟩,?_⟩;(try refine Ah J ?_);apply z;clear z K)
  refine tI ?_;refine sR Hh ?_;exact aR
end Go.Abs
