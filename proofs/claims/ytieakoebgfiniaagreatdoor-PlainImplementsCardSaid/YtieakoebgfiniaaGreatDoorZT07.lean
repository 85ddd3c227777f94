/- substitution of types: composition, exchange; names that a type has -/
import Derived.Test.YtieakoebgfiniaaGreatDoorZV05
set_option linter.all false
set_option maxHeartbeats 1000000
set_option maxRecDepth 100000
namespace Go.Abs
open Go Go.Proofs
inductive Ty.Lf(S:A2->Prop):Ty->Prop where
 |mk (n:A2) (a:List Ty) (p:Int):(a=[]->S n)->(∀t,t∈a->Ty.Lf S t)->Ty.Lf S (.mk n a p)
variable {t:Ty}
theorem Ty.Lf.name{S:A2->Prop}(h:t.Lf S)(E:t.args=[]):S t.name:=by cases h with|mk n a p I J=>exact I E
def Ty.Lf.arg{S:A2->Prop}(h:t.Lf S):∀u,u∈t.args->u.Lf S:=by cases h with|mk n a p I E=>exact E
def Ty.Lf.of{S:A2->Prop}(I:t.args=[]->S t.name)(E:∀u,u∈t.args->u.Lf S):t.Lf S:=by cases t with|mk n a p=>exact .mk n a p I E
def Ty.Lf.mono{S T:A2->Prop}(h:t.Lf S)(hs:∀n,S n->T n):t.Lf T:=by
 induction t using Ty.induct with
 |h t I=>exact .of (λJ=>hs _ (h.name J)) λu E=>I u E (h.arg u E)
def Hh(vars:List A2)(args:List Ty)(n:A2):Option Ty:=if 0<=D5 n vars 0/\D5 n vars 0<args.length then args[(D5 n vars 0).toNat]? else none
def B0v(vars:List A2)(args:List Ty)(t:Ty):t.subst vars args=match(if t.args=[]then Hh vars args t.name else none)with
  |some u=>.mk u.name u.args t.pos
  |none=>.mk t.name (t.args.map (Ty.subst vars args)) t.pos:=by
 rw[Wo];unfold Hh
 grind
theorem Rq{vars:List A2}{args:List Ty}{t u:Ty}(E:t.args=[])(h:Hh vars args t.name=some u):t.subst vars args=.mk u.name u.args t.pos:=by rw[B0v,A8 E,h]
theorem Iq{vars:List A2}{args:List Ty}(h:t.args=[]->Hh vars args t.name=none):t.subst vars args=.mk t.name (t.args.map (Ty.subst vars args)) t.pos:=by
 rw[B0v]
 grind
variable {n:A2}
theorem P4{vars:List A2}{args:List Ty}(h:n∉vars):Hh vars args n=none:=by
 unfold Hh;rcases A3o n vars 0 with⟨E,_⟩|⟨k,E,I⟩
 .grind
 grind
theorem A3h{vars:List A2}{args:List Ty}(h:n∈vars)(O:vars.length<=args.length):∃(k:Nat)(u:Ty),D5 n vars 0=k/\vars[k]?=some n/\args[k]?=some u/\Hh vars args n=some u:=by
 unfold Hh;rcases A3o n vars 0 with⟨_,J⟩|⟨k,I,J⟩
 .grind
 .have L:=(Az.1 I).1;have E:k<args.length:=by omega
  refine⟨k,args[k],by omega,I,Bi E,?_⟩
  grind
def B5u{vars:List A2}{args:List Ty}{u:Ty}(h:Hh vars args n=some u):n∈vars/\u∈args:=by
 have E:u∈args:=by
  unfold Hh at h;split at h
  .grind
  .cases h
 refine⟨Am7 λI=>?_,E⟩
 grind[P4]
theorem C6x(f:Ty->Ty)(vars:List A2)(args:List Ty)(n:A2):Hh vars (args.map f) n=(Hh vars args n).map f:=by grind[Hh]
theorem D4g(v:List A2)(a:List Ty)(u:Ty)(q:Int):(Ty.mk u.name u.args q).subst v a=.mk (u.subst v a).name (u.subst v a).args q:=by
 by_cases I:u.args=[]
 .cases E:Hh v a u.name with
  |some w=>rw[Rq (t:=.mk u.name u.args q) (u:=w) I E,Rq I E];rfl
  |none=>rw[Iq (t:=.mk u.name u.args q) λ_=>E,Iq λ_=>E];rfl
 .rw[Iq (t:=.mk u.name u.args q) λh=>absurd h I,Iq (t:=u) λh=>absurd h I];rfl
def A8w(I:List A2)(L:List Ty)(J:List A2)(U:List Ty)(hl:I.length<=L.length)(t:Ty)(h:t.Lf λn=>n∈I\/n∉J):(t.subst I L).subst J U=t.subst I (L.map (Ty.subst J U)):=by
 induction t using Ty.induct with
 |h t W =>
 by_cases E:t.args=[]
 .by_cases V:t.name∈I
  .grind[A3h,Rq,C6x,D4g]
  .have Z:t.name∉J:=(h.name E).resolve_left V;have e1:∀a,t.subst I a=t:=λa=>by
    rw[Iq λ_=>P4 V,E];cases t;simp only[Ty.args]at E;subst E;rfl
   grind[Iq,P4]
 .rw[Iq λh=>absurd h E,Iq (t:=t) λh=>absurd h E,Iq λh=>absurd h (by simpa [Hs]using E)];simp only[Hs,Qj,mkQ,Ff]
  congr 1
  exact Ie λu O=>W u O (h.arg u O)
def D3x{v:List A2}{a:List Ty}(h:t.Lf λn=>n∉v):t.subst v a=t:=by
 induction t using Ty.induct with
 |h t I =>
 rw[Iq λJ=>P4 (h.name J)];rw[Ie (g:=id) λu E=>I u E (h.arg u E)];cases t;simp[Ty.name,Ty.args,Ty.pos]
def F9j{L:List A2}{V:List Ty}{J:List A2}{I:List Ty}(hd:∀n,n∈L->n∉J)(hc:∀u,u∈I->u.Lf λn=>n∉L)(t:Ty):(t.subst L V).subst J I=(t.subst J I).subst L (V.map (Ty.subst J I)):=by
 induction t using Ty.induct with
 |h t ih =>
 by_cases E:t.args=[]
 .have Z:∀v a,Hh v a t.name=none->t.subst v a=t:=λv a hh=>by
   rw[Iq λ_=>hh,E];cases t;simp only[Ty.args]at E;subst E;rfl
  cases U:Hh L V t.name with
  |some u =>have W:=hd _ (B5u U).1;rw[Z J I (P4 W),Rq E U,Rq (u:=u.subst J I) E (by rw[C6x,U];rfl),D4g]
  |none =>
   rw[Z L V U];cases hw:Hh J I t.name with
   |some w =>have O:=hc w (B5u hw).2;rw[Rq E hw,D3x];exact .of (λh=>O.name h) λx hx=>O.arg x hx
   |none =>grind[C6x]
 .rw[Iq λh=>absurd h E,Iq (t:=t) λh=>absurd h E,Iq λh=>absurd h (by simpa [Hs]using E),Iq λh=>absurd h (by simpa [Hs]using E)];simp only[Hs,Qj,mkQ,Ff];simp_all
def H3u{S T:A2->Prop}{v:List A2}{a:List Ty}(U:∀n,S n->Hh v a n=none->T n)(V:∀u,u∈a->u.Lf T){t:Ty}(h:t.Lf S):(t.subst v a).Lf T:=by
 induction t using Ty.induct with
 |h t O =>
 by_cases J:t.args=[]
 .cases E:Hh v a t.name with
  |some u =>rw[Rq J E];have:=V u (B5u E).2;exact .of (λI=>this.name I) λx L=>this.arg x L
  |none =>rw[Iq λ_=>E,J];exact .of (λ_=>U _ (h.name J) E) (by simp[Hs])
 .rw[Iq λI=>absurd I J];refine .of (λI=>absurd I (by simpa [Hs]using J)) λx L=>?_;simp only[Hs,Au]at L;obtain⟨u,E,rfl⟩:=L;exact O u E (h.arg u E)
def E2d(n:A2):∀(v:List A2)(i:Nat),D5 n v i=if n∈v then D5 n v 0+i else -1:=by
 intro v
 induction v with
 |nil=>intro i;rfl
 |cons x v E =>
  intro i;rw[D5,D5]
  grind
def G3r{α:Type}(p:α->Bool)(x:α)(l:List α):Dr p (x::l)=if p x=true then 0 else if Dr p l = -1 then -1 else Dr p l+1:=by
 unfold Dr
 grind
theorem A6v{α:Type}(g:α->A2)(nm:A2):∀l:List α,Dr (λf=>decide (g f=nm)) l=D5 nm (l.map g) 0
 |[]=>rfl
 |x::l=>by
  rw[G3r,A6v g nm l,Ck,D5,E2d nm (l.map g) (0+1)];by_cases E:nm=g x
  .grind
  .rw[A6 E,A6 (by grind)];rcases A3o nm (l.map g) 0 with⟨J,I⟩|⟨k,J,I⟩
   .grind
   grind
def B1m{E I:List A2}{O Z:List Ty}(hl:E.length=O.length)(n:A2):Hh (E++I) (O++Z) n=if n∈E then Hh E O n else Hh I Z n:=by
 have J:∀(E:List A2) (i:Nat),D5 n (E++I) i=if n∈E then D5 n E i else D5 n I (i+E.length):=by
  intro E
  induction E with
  |nil=>simp
  |cons x E ih =>
   intro i;rw[Jq,D5,D5,ih]
   grind
 have U:=E2d n;unfold Hh;rw[J E 0];by_cases L:n∈E
 .rw[A8 L,A8 L];obtain⟨k,u,h1,V,W,h4⟩:=A3h L (args:=O) (by omega)
  grind
 .rw[A6 L,A6 L,U I (0+E.length)];by_cases V:n∈I
  .rw[A8 V];rcases A3o n I 0 with⟨_,W⟩|⟨k,W,h4⟩
   .grind
   grind
  grind
def G3p{E U:List A2}{J W:List Ty}(Z:E.length=J.length){t:Ty}(h:t.Lf λn=>n∈E\/n∉U):t.subst (E++U) (J++W)=t.subst E J:=by
 induction t using Ty.induct with
 |h t V =>
 rw[B0v,B0v E J];by_cases I:t.args=[]
 .rw[A8 I,A8 I,B1m Z,I];by_cases L:t.name∈E
  .grind
  .rw[A6 L,P4 L,P4 ((h.name I).resolve_left L)];rfl
 .rw[A6 I,A6 I];simp only;rw[Ie λu O=>V u O (h.arg u O)]
def A3.Lf(S:A2->Prop)(s:A3):Prop:=(∀f,f∈s.A1->f.bound.Lf S)/\(∀f,f∈s.params->f.type.Lf S)/\s.result.Lf S
variable {s:A3}
def A3.Lf.mono{S T:A2->Prop}(h:s.Lf S)(hs:∀n,S n->T n):s.Lf T:=⟨λf E=>(h.1 f E).mono hs,λf E=>(h.2.1 f E).mono hs,h.2.2.mono hs⟩
def E1z(E:List A2)(J:List Ty)(O:List A2)(U:List Ty)(L:E.length<=J.length)(s:A3)(h:s.Lf λn=>n∈E\/n∉O):(s.subst E J).subst O U=s.subst E (J.map (Ty.subst O U)):=by
 simp only[A3.subst,Ff,A3.mk.injEq,Qi,Sn];refine⟨Ie λf I=>?_,Ie λf I=>?_,A8w _ _ _ _ L _ h.2.2⟩
 .simp only[Function.comp,Ah.subst,A8w _ _ _ _ L _ (h.1 f I)]
 .simp only[Function.comp,Param.subst,A8w _ _ _ _ L _ (h.2.1 f I)]
def N0(n:A2):Prop:=∃i,n=E0 i
theorem H1h(i:Nat){S:A2->Prop}(h:∀n,N0 n->S n):(U7 i).Lf S:=.of (λ_=>h _ ⟨i,rfl⟩) (by simp[U7,Hs])
def E9b(n:Nat){S:A2->Prop}(h:∀n,N0 n->S n):∀u,u∈D8 n->u.Lf S:=λu E=>by grind[D8,H1h]
def D7w{S T:A2->Prop}(h:s.Lf λn=>n∈Ad s.A1\/S n)(hs:∀n,S n->T n)(U:∀n,N0 n->T n):s.canon.Lf T:=by
 have key:∀t:Ty,t.Lf (λn=>n∈Ad s.A1\/S n)->(t.subst (Ad s.A1) (D8 s.A1.length)).Lf T:=λt ht =>
  H3u (S:=λn=>n∈Ad s.A1\/S n) (λn V J=>V.elim (λO=>by obtain⟨_,_,_,_,_,L⟩:=A3h O (args:=D8 s.A1.length) (by simp[Ad,D8]);rw[L]at J;cases J) (hs n)) (E9b _ U) ht
 refine⟨λf E=>?_,λf E=>?_,key _ h.2.2⟩
 .simp only[A3.canon,Ha]at E;obtain⟨i,I,rfl⟩:=List.mem_mapIdx.1 E;exact key _ (h.1 _ (Fq I))
 .simp only[A3.canon,It]at E;obtain⟨i,I,rfl⟩:=List.mem_mapIdx.1 E;exact key _ (h.2.1 _ (Fq I))
structure A3.Cn(s:A3):Prop where
 fs:Ad s.A1=(List.range s.A1.length).map E0
 ps:∀f,f∈s.params->f.name=[]
def A9b(s:A3):s.canon.Cn:=by
 refine⟨?_,λf E=>?_⟩
 .refine List.ext_getElem (by simp[Ad,A3.canon,Ha]) λi I J=>?_;simp only[List.getElem_map,List.getElem_range];simp only[Ad,Bc]at I;simp only[Ad,List.getElem_map,A3.canon,Ha,A3.A1,List.getElem_mapIdx]
  grind
 .simp only[A3.canon,It,A3.params]at E
  grind
def A3.Cn.subst(h:s.Cn)(v:List A2)(a:List Ty):(s.subst v a).Cn:=by
 refine⟨?_,λf E=>?_⟩
 .simp only[A3.subst,Bc];rw[<-h.fs];simp only[Ad,Ff];rfl
 .simp only[A3.subst]at E;obtain⟨g,I,rfl⟩:=Au.1 E;exact h.ps g I
def C7s{n:Nat}(t:Ty):t.subst ((List.range n).map E0) (D8 n)=t:=by
 induction t using Ty.induct with
 |h t U =>
 rw[B0v];cases E:(if t.args=[]then Hh ((List.range n).map E0) (D8 n) t.name else none)with
 |none =>simp only;rw[Ie (g:=id) λu E=>U u E];cases t;simp[Ty.name,Ty.args,Ty.pos]
 |some u =>
  split at E
  .rename_i Z;obtain⟨k,w,h1,L,I,O⟩:=A3h (B5u E).1 (args:=D8 n) (by simp[D8]);rw[O]at E;simp only[B5]at E;subst E;have J:k<n:=by have:=(Az.1 I).1;simpa [D8]using this
   have W:t.name=E0 k:=by rw[Df,Am0 J]at L;simpa using L.symm
   have V:w=U7 k:=by unfold D8 at I;rw[Df,Am0 J]at I;simpa using I.symm
   subst V;cases t;simp only[Ty.name,Ty.args,Ty.pos]at*;subst Z;subst W;rfl
  grind
theorem A3.Cn.canon(h:s.Cn):s.canon=s:=by
 cases s with|mk nm fs ps r q =>
 have I:=h.fs;have L:=h.ps;simp only[]at I L;simp only[A3.canon,A3.mk.injEq,Qi,Sn,Ha,It];rw[I];refine⟨?_,?_,C7s _⟩
 .refine Ld λi=>?_;rw[Sd];cases h:fs[i]? with
  |none=>rfl
  |some f =>
   have E:=(Az.1 h).1;have J:(Ad fs)[i]?=some f.name:=by unfold Ad;rw[Df,h];rfl
   rw[I,Df,Am0 E]at J;simp only[Ez,B5]at J;simp only[Ez,C7s,A8 E,J]
 .refine Ld λi=>?_;rw[Sd];cases h:ps[i]? with
  |none=>rfl
  |some f =>have E:=(Az.1 h).1;simp only[Ez,C7s,A8 E,<-L f (C6 h)]
def F6h{p:Prog}{x:Ty} :∀s,s∈Gs p x->s.Cn:=by
 intro s hs;unfold Gs at hs;by_cases E:Bh p x 2=true
 .rw[A8 E]at hs;unfold Vm Hn at hs;obtain⟨y,_,rfl⟩:=Au.1 hs;exact(A9b _).subst _ _
 grind
def C2z{p:Prog}{env:List Ah}{x:Ty} :∀s,s∈Cw p env x->s.Cn:=by
 intro s hs;unfold Cw at hs;by_cases E:Bh p ((Cs env x).getD x) 2=true
 .rw[A8 E]at hs;exact F6h s hs
 .rw[A6 E]at hs;by_cases I:(Cs env x).isSome=true
  .grind
  .rw[A6 I]at hs;unfold Gk at hs;obtain⟨y,_,rfl⟩:=Au.1 hs;exact(A9b _).subst _ _
theorem C1m{u:Ty}{q:Int} :(Ty.mk u.name u.args q).er=u.er:=by rw[Ht,Ht u];rfl
def A7v{p:Prog}{env:List Ah}{x y:Ty}(h:Cv p env x y=true):∀w,w∈Cw p env y->∃s,s∈Cw p env x/\s.er=w.er:=by
 intro w E;unfold Cv at h;split at h
 .rw[Dp,A4f]at h;obtain⟨s,hs,_,I⟩:=h w E;rw[(C2z s hs).canon,(C2z w E).canon]at I
  grind
 .rw[Sx]at h;have:w.er∈(Cw p env x).map A3.er:=by rw[B5e h];exact Au.2 ⟨w,E,rfl⟩
  grind
def D8k{p:Prog}{env:List Ah}{x y:Ty}(I:isIface p env y=true)(h:∀w,w∈Cw p env y->∃s,s∈Cw p env x/\s.er=w.er):Cv p env x y=true:=by unfold Cv;rw[A8 I,Dp,A4f];intro w J;obtain⟨s,hs,E⟩:=h w J;exact⟨s,hs,by have:=Gi A3.name E;simpa [A3.er]using this,by rw[B5z,B5z,E]⟩
theorem Y6{p:Prog}{env:List Ah}{x y:Ty}(h:x.er=y.er):Cv p env x y=true:=by
 by_cases E:isIface p env y=true
 .refine D8k E λw I=>?_;have:w.er∈(Cw p env x).map A3.er:=by rw[B5e h];exact Au.2 ⟨w,I,rfl⟩
  grind
 .unfold Cv;rw[A6 E,Sx];exact h
theorem D3p{p:Prog}{env:List Ah}{x y E I:Ty}(J:x.er=E.er)(L:y.er=I.er)(h:Cv p env x y=true):Cv p env E I=true :=
 X7 (X7 (Y6 J.symm) h) (Y6 L)
end Go.Abs
/- a program whose heads are in order: what substitution of types keeps: fields, method sets, implementing, well-formedness -/
namespace Go.Abs
open Go Go.Proofs
structure PW(p:Prog):Prop where
 name:∀n,kindOf p n≠0->¬N0 n
 bnd:∀x d,F7 p x=some d->∀f,f∈d.A1->f.bound.Lf λn=>n∈Ad d.A1\/kindOf p n≠0
 fld:∀x d,F7 p x=some d->d.kind=1->∀f,f∈d.fields->f.type.Lf λn=>n∈Ad d.A1\/kindOf p n≠0
 spc:∀x d,F7 p x=some d->d.kind=2->∀s,s∈d.sigs->s.Lf λn=>n∈Ad s.A1\/(n∈Ad d.A1\/kindOf p n≠0)
 mth:∀d,d∈p.decls->d.kind=3->d.sig.Lf λn=>n∈Ad d.sig.A1\/(n∈d.vars\/kindOf p n≠0)
structure Sb(p:Prog)(env env':List Ah)(v:List A2)(a:List Ty):Prop where
 names:v=Ad env
 len:a.length=v.length
 fresh:∀n,n∈v->kindOf p n=0/\¬N0 n
 H5g:∀n,n∈Ad env'->kindOf p n=0
 clean:∀u,u∈a->u.Lf λn=>¬N0 n
 iface:∀f,f∈env->isIface p env f.bound=true
 bnd:∀(i:Nat) (f:Ah) (u:Ty),env[i]?=some f->a[i]?=some u->Cv p env' u (f.bound.subst v a)=true
def B3h{p:Prog}{env:List Ah}{t:Ty}(h:∀n,n∈Ad env->kindOf p n=0)(J:kindOf p t.name≠0):Cs env t=none:=by
 unfold Cs;rw[A8];unfold Ep;split
 .rcases N4 (λf:Ah=>decide (f.name=t.name)) env with⟨L,_⟩|⟨j,x,_,E,I⟩
  .omega
  .have:=h x.name (Au.2 ⟨x,C6 E,rfl⟩)
   grind
 .omega
def D7a{env:List Ah}{t b:Ty}(h:Cs env t=some b):∃(k:Nat)(f:Ah),env[k]?=some f/\b=f.bound/\t.args=[]/\D5 t.name (Ad env) 0=k/\f.name=t.name:=by
 unfold Cs at h;split at h
 .cases h
 .rename_i E;unfold Ep at h E;split at E
  .rename_i I;rw[A8 I]at h
   grind[A6v,D8z,Ad]
  omega
def D0c{env:List Ah}{t:Ty}(h:Cs env t=none)(J:t.args=[]):t.name∉Ad env:=by
 intro O;unfold Cs Ep at h;have E:t.args.length=0:=by rw[J];rfl
 rw[A8 E,A6v]at h;rcases D8z env t.name with U|⟨k,f,L,V,I⟩
 .grind[A3o]
 .unfold Ad at I
  grind
theorem Ps{p:Prog}{t:Ty}{k:Int}(h:Bh p t k=true):kindOf p t.name=k/\(Em p t.name).length=t.args.length:=by grind[Bh]
def D5s{p:Prog}{t u:Ty}{k:Int}(h:Bh p t k=true)(I:u.name=t.name)(E:u.args.length=t.args.length):Bh p u k=true:=by grind[Bh]
section
variable {p:Prog} {env env':List Ah} {v:List A2} {a:List Ty}
def Sb.node(sb:Sb p env env' v a){t:Ty}(h:Cs env t=none):t.subst v a=.mk t.name (t.args.map (Ty.subst v a)) t.pos :=
 Iq λE=>P4 (by rw[sb.names];exact D0c h E)
def Sb.D2y(sb:Sb p env env' v a):∀n,n∈Ad env->kindOf p n=0:=λn E=>(sb.fresh n (by rw[sb.names];exact E)).1
def Sb.inst(sb:Sb p env env' v a){t:Ty}{k:Int}(L:k≠0)(h:Bh p t k=true):t.subst v a=.mk t.name (t.args.map (Ty.subst v a)) t.pos/\Bh p (t.subst v a) k=true/\Cs env t=none/\Cs env' (t.subst v a)=none:=by
 have J:=(Ps h).1;have I:=B3h (t:=t) sb.D2y (by omega);have E:=sb.node I;refine⟨E,?_,I,?_⟩
 .rw[E];exact D5s h rfl (by simp[Hs])
 .rw[E];exact B3h sb.H5g (by rw[Qj,J];exact L)
def Sb.D2u(sb:Sb p env env' v a){t:Ty}(h:isIface p env t=true):isIface p env' (t.subst v a)=true:=by
 unfold isIface at h |-;rw[Bb]at h |-;obtain⟨_,E,_,I⟩:=sb.inst (by decide) h.1
 grind
def Sb.var(sb:Sb p env env' v a){t b:Ty}(h:Cs env t=some b):∃(k:Nat)(f:Ah)(u:Ty),env[k]?=some f/\b=f.bound/\t.args=[]/\a[k]?=some u/\t.subst v a=.mk u.name u.args t.pos:=by
 obtain⟨k,f,O,Z,h3,I,L⟩:=D7a h;have J:t.name∈v:=by rw[sb.names,<-L];exact Au.2 ⟨f,C6 O,rfl⟩
 obtain⟨E,u,U,V,W,g4⟩:=A3h J (args:=a) (by rw[sb.len];simp);have:E=k:=by rw[sb.names,I]at U;omega
 grind[Rq]
def Sb.out(sb:Sb p env env' v a){n:A2}(h:N0 n\/kindOf p n≠0):n∉v:=λE=>by
 obtain⟨J,I⟩:=sb.fresh n E
 grind
def C5y(U:PW p)(sb:Sb p env env' v a){t:Ty}(h:Bh p t 2=true):Gs p (t.subst v a)=(Gs p t).map (A3.subst v a):=by obtain⟨V,O,_,_⟩:=sb.inst (by decide) h;obtain⟨d,hd,E,L⟩:=Mm (by decide) h;unfold Gs;rw[A8 O,A8 h,V,Qj,hd,Dz];unfold Vm Hn;rw[Hs,Ff];refine Ie λs hs=>?_;have I:s.1∈d.sigs:=Ji (W7 (Jz.1 hs).1);simp only[Function.comp];refine(E1z _ _ _ _ (by rw[<-L];simp[Ad]) _ ?_).symm;refine D7w (U.spc _ d hd E s.1 I) (λn J=>?_) λn J=>.inr (sb.out (.inl J));exact J.imp_right λh=>sb.out (.inr h)
theorem H4r(Z:PW p)(sb:Sb p env env' v a){t:Ty}(h:Bh p t 1=true)(j:Nat):Gk p (t.subst v a) j=(Gk p t j).map (A3.subst v a):=by
 obtain⟨O,W,_,_⟩:=sb.inst (by decide) h;have hb:Ii p (t.subst v a)=Ii p t:=by funext d i;unfold Ii Kb;rw[W,h,O,Qj,Hs,Bc]
 unfold Gk;rw[hb,Ff,O,Hs];refine Ie λs hs=>?_;obtain⟨V,J⟩:=Jz.1 hs;have L:s.1∈p.decls:=Ji (W7 V);unfold Ii at J;simp only[Bb,Dp]at J;obtain⟨⟨U,E⟩,I⟩:=J;have a0:s.1.vars.length=t.args.length:=by
  unfold Kb at I;rw[A8 h]at I;split at I
  .grind
  .omega
 simp only[Function.comp];refine(E1z _ _ _ _ (by omega) _ ?_).symm;refine D7w (Z.mth s.1 L U) (λn E=>?_) λn E=>.inr (sb.out (.inl E));exact E.imp_right λh=>sb.out (.inr h)
def E0i(O:PW p)(sb:Sb p env env' v a){t:Ty}(h:Bh p t 1=true):Bx p (t.subst v a)=(Bx p t).map (Param.subst v a):=by obtain⟨U,L,_,_⟩:=sb.inst (by decide) h;obtain⟨d,hd,E,I⟩:=Mm (by decide) h;unfold Bx;rw[A8 L,A8 h,U,Qj,hd,Dz];unfold fieldsD;rw[Hs,Ff];refine Ie λf J=>?_;simp only[Function.comp,Param.subst,Param.mk.injEq,Qi,Sn];refine(A8w _ _ _ _ (by rw[<-I];simp[Ad]) _ ?_).symm;exact(O.fld _ d hd E f J).mono λn V=>V.imp_right λh=>sb.out (.inr h)
theorem B3g{p:Prog}{env:List Ah}{t:Ty}(h:isIface p env t=true):Cw p env t=Gs p t:=by unfold isIface at h;rw[Bb]at h;unfold Cw;simp_all
theorem C3e{p:Prog}{env:List Ah}{x y:Ty}(h:x.er=y.er){s:A3}(hs:s∈Cw p env x):∃E,E∈Cw p env y/\E.er=s.er:=by
 have:s.er∈(Cw p env y).map A3.er:=by rw[<-B5e h];exact Au.2 ⟨s,hs,rfl⟩
 grind
theorem D4k(Z:PW p)(sb:Sb p env env' v a){t:Ty}{s:A3}(hs:s∈Cw p env t):∃W,W∈Cw p env' (t.subst v a)/\W.er=(s.subst v a).er:=by
 cases V:Cs env t with
 |some b =>
  obtain⟨k,f,u,I,rfl,h3,h4,h5⟩:=sb.var V;have O:=sb.iface f (C6 I);have a3:=sb.D2u O;have E:=O;unfold isIface at E;rw[Bb]at E;have a2:s∈Gs p f.bound:=by unfold Cw at hs;rw[V,Dz,A8 E.1]at hs;exact hs
  have a0:=C5y Z sb E.1;obtain⟨w,hw,a1⟩:=A7v (sb.bnd k f u I h4) (s.subst v a) (by grind[B3g])
  grind[C3e,C1m]
 |none =>
  have key:∀k,k≠0->Bh p t k=true->Cs env' (t.subst v a)=none:=λk hk h=>(sb.inst hk h).2.2.2;unfold Cw at hs;rw[V]at hs;simp only[Xa,Sk,I0,Fx]at hs;split at hs
  .rename_i J;have U:=key 2 (by decide) J;refine⟨s.subst v a,?_,rfl⟩;unfold Cw;rw[U,Xa,A8 (sb.inst (by decide) J).2.1,C5y Z sb J]
   grind
  .rename_i J;by_cases I:Bh p t 1=true
   .have U:=key 1 (by decide) I;refine⟨s.subst v a,?_,rfl⟩;have O:=(sb.inst (by decide) I).2.1;have L:¬Bh p (t.subst v a) 2=true:=λh=>by have:=(Ps h).1;grind[Ps]
    unfold Cw;rw[U,Xa,A6 L];simp only[Sk,I0,Fx]
    grind[H4r]
   grind[D6p]
def B6c(U:PW p)(sb:Sb p env env' v a){t u:Ty}(h:Cv p env t u=true):Cv p env' (t.subst v a) (u.subst v a)=true:=by
 by_cases J:isIface p env u=true
 .have I:=sb.D2u J;refine D8k I λw L=>?_;have E:=J;unfold isIface at E;rw[Bb]at E;rw[B3g I,C5y U sb E.1]at L;obtain⟨w0,V,rfl⟩:=Au.1 L;obtain⟨s,hs,O⟩:=A7v h w0 (by rw[B3g J];omega)
  grind[D4k,C2m]
 .unfold Cv at h;rw[A6 J,Sx]at h
  grind[Y6,Ik]
end
def Zj{p:Prog}{env fs:List Ah}{args:List Ty}:H5 p env fs args<0↔∀(i:Nat)(f:Ah)(u:Ty),fs[i]?=some f->args[i]?=some u->Cv p env u (f.bound.subst (Ad fs) args)=true:=by
 unfold H5;constructor
 .intro h i f u J I;rcases N4 (A4o p env fs args) (fs.zip args)with⟨_,E⟩|⟨j,z,L,_⟩
  .have:=E (f,u) (C6 (by grind:(fs.zip args)[i]?=some (f,u)))
   grind[A4o]
  .omega
 grind[Tg,List.getElem?_of_mem,List.getElem?_zip_eq_some,A4o]
def C4s{p:Prog}{env:List Ah}:∀{l:List Ty},N7 p env l=none↔∀t,t∈l->Bk p env t=none
 |[]=>by simp[N7]
 |t::l=>by
  rw[N7];cases h:Bk p env t with
  |some q=>simp[h]
  |none=>simp only[C4s (l:=l),B1,forall_eq_or_imp,h,Qi]
theorem A4d{p:Prog}{env:List Ah}{t:Ty}:Bk p env t=none↔(Cs env t).isSome=true\/(kindOf p t.name≠0/\(Em p t.name).length=t.args.length/\(∀u,u∈t.args->Bk p env u=none)/\H5 p env (Em p t.name) t.args<0):=by
 rw[D4r];by_cases I:(Cs env t).isSome=true
 .grind
 rw[A6 I];by_cases E:kindOf p t.name=0\/(Em p t.name).length≠t.args.length
 .grind
 rw[A6 E];obtain⟨L,J⟩:=Vc.1 E;rw[<-C4s]
 grind
def A0s{p:Prog}{env:List Ah}{t:Ty}(h:Bk p env t=none):t.Lf λn=>n∈Ad env\/kindOf p n≠0:=by
 induction t using Ty.induct with|_ t L=>?_
 rcases A4d.1 h with E|⟨J,_,U,_⟩
 .obtain⟨b,E⟩:=Tz.1 E;obtain⟨k,f,O,_,W,_,V⟩:=D7a E;exact .of (λ_=>.inl (by rw[<-V];exact Au.2 ⟨f,C6 O,rfl⟩)) (by grind)
 .exact .of (λ_=>.inr J) λu I=>L u I (U u I)
theorem E5x{p:Prog}{env:List Ah}{t:Ty}:∀{u:Ty},t.er=u.er->Bk p env t=none->Bk p env u=none:=by
 induction t using Ty.induct with|_ t ih=>?_
 intro u W h;obtain⟨e1,U,V⟩:=A5t W;rw[A4d]at h |-;rw[<-B9q W];refine h.imp_right λ⟨h1,h2,h3,L⟩=>⟨by grind,by grind,λw I=>?_,?_⟩
 .obtain⟨i,Z⟩:=Qu I;have E:i<t.args.length:=by rw[V];exact(Az.1 Z).1
  have J:t.args[i]?=some t.args[i]:=Bi E;have:(t.args.map Ty.er)[i]?=(u.args.map Ty.er)[i]?:=by rw[U]
  grind
 .rw[Zj]at L |-;intro i f w O I;rw[<-e1]at O;have E:i<t.args.length:=by rw[V];exact(Az.1 I).1
  have J:t.args[i]?=some t.args[i]:=Bi E;have:(t.args.map Ty.er)[i]?=(u.args.map Ty.er)[i]?:=by rw[U]
  rw[Df,Df,J,I]at this;have h5:=L i f _ O J
  grind[D3p,Ik]
section
variable {p:Prog} {env env':List Ah} {v:List A2} {a:List Ty}
def A8m{p:Prog}{n:A2}(h:kindOf p n≠0):∃d,F7 p n=some d/\d.kind=kindOf p n/\Em p n=d.A1:=by grind[kindOf,Em,F7]
theorem Yt(V:PW p)(sb:Sb p env env' v a)(ha:∀u,u∈a->Bk p env' u=none){t:Ty}(h:Bk p env t=none):Bk p env' (t.subst v a)=none:=by
 induction t using Ty.induct with|_ t ih=>?_
 rcases A4d.1 h with E|⟨L,h2,h3,U⟩
 .obtain⟨b,E⟩:=Tz.1 E;obtain⟨k,f,u,g1,_,g3,g4,g5⟩:=sb.var E
  grind[E5x,C1m]
 .have E:=B3h (t:=t) sb.D2y L;have Z:=sb.node E;rw[Z,A4d];refine .inr ⟨L,by grind[Hs,Qj],λw O=>?_,?_⟩
  .grind[Hs]
  .rw[Zj]at U |-;rw[Hs,Qj];intro i f w J O;rw[Df,Jv]at O;obtain⟨u,W,rfl⟩:=O;have:=B6c V sb (U i f u J W);obtain⟨d,hd,_,I⟩:=A8m L;rw[A8w]at this
   .omega
   .rw[<-h2];simp[Ad]
   .rw[I]at J |-;exact(V.bnd _ d hd f (C6 J)).mono λn hn=>hn.imp_right λh=>sb.out (.inr h)
end
end Go.Abs
/- typing: inversion; what a substitution of types and of values keeps -/
namespace Go.Abs
open Go Go.Proofs
theorem C0r{c:Cf}{x:Ty}:Ju c x=true↔Bh c.p x 1=true/\Cs c.env x=none:=by
 unfold Ju;have:(Cs c.env x=none)↔Ep c.env x<0:=by
  unfold Cs;constructor
  .intro h;refine Am7 λE=>?_;rw[A6 E]at h
   grind[A5v]
  .grind
 grind
def Y3(c:Cf)(E:List Ty)(es:List Ex):Prop:=E.length=es.length/\∀(i:Nat)(w:Ty)(k:Ex),E[i]?=some w->es[i]?=some k->∃K,Eh c k=(K,none)/\Cv c.p c.env K w=true
def B2f{c:Cf}:∀(I:List Ty)(es:List Ex),I.length=es.length->(U2 c I es (es.map (Eh c))=none↔∀(i:Nat)(w:Ty)(k:Ex),I[i]?=some w->es[i]?=some k->∃K,Eh c k=(K,none)/\Cv c.p c.env K w=true)
 |[],[],_=>by simp[U2]
 |[],_::_,h=>by grind
 |_::_,[],h=>by grind
 |w::I,e::es,h=>by
  have O:=B2f (c:=c) I es (by grind);rw[Ck,U2];have L:C0x c w e (Eh c e)=none↔∃K,Eh c e=(K,none)/\Cv c.p c.env K w=true:=by
   unfold C0x;obtain⟨t,o⟩:=Eh c e;cases o with
   |some q=>simp
   |none =>simp
  constructor
  .grind
  .intro E;rw[L.2 (E 0 w e rfl rfl)];exact O.2 λi w' J U V=>E (i+1) w' J (by grind) (by grind)
def B7j{o:Option Int}{t u:Ty}:orI o t=(u,none)↔o=none/\u=t:=by
 unfold orI;cases o with
 |some q=>simp[Kq]
 |none=>grind
theorem A3d{n:Int}{t:Ty}:Kq n=(t,none)↔False:=by simp[Kq]
theorem A6i{c:Cf}{e:Ex}{x:Ty}{s:A3}:Pp c e x=.inr s↔s∈Cw c.p c.env x/\s.name=e.name/\s.A1.length=e.targs.length/\(∀t,t∈e.targs->Bk c.p c.env t=none)/\H5 c.p c.env s.A1 e.targs<0/\e.kids.length=s.params.length+1:=by
 have I:∀E:A3,(if Fb (C7 c.p c.env x) e.name<0\/E.A1.length≠e.targs.length then(.inl e.pos:Int ⊕ A3)else
  match N7 c.p c.env e.targs with
  |some q=>.inl q
  |none=>if 0<=H5 c.p c.env E.A1 e.targs then .inl ((e.targs[(H5 c.p c.env E.A1 e.targs).toNat]?).getD default).pos else
   if e.kids.length≠E.params.length+1 then .inl e.pos else .inr E)=.inr s↔0<=Fb (C7 c.p c.env x) e.name/\E=s/\s.A1.length=e.targs.length/\(∀t,t∈e.targs->Bk c.p c.env t=none)/\H5 c.p c.env s.A1 e.targs<0/\e.kids.length=s.params.length+1:=by
  intro E;rw[<-C4s];by_cases J:Fb (C7 c.p c.env x) e.name<0\/E.A1.length≠e.targs.length
  .grind
  rw[A6 J];obtain⟨L,O⟩:=Vc.1 J;have O:=Am7 O;cases hL:N7 c.p c.env e.targs with
  |some q=>simp
  |none =>grind
 unfold Pp;rcases N4 (λs:A3=>decide (s.name=e.name)) (C7 c.p c.env x)with⟨J,L⟩|⟨j,y,J,L,O⟩
 .grind[Fb,Nt]
 .have V:Fb (C7 c.p c.env x) e.name=j:=J;rw[V,Je,L];simp only;rw[<-V];refine(I y).trans ?_;have hy:=C6 L;have U:y.name=e.name:=by simpa using O
  constructor
  .grind[Nt]
  .rintro⟨Z,W,g⟩;exact⟨by omega,A2k (B9w _ _ _) hy (Nt.2 Z) (U.trans W.symm),g⟩
def E1a{α:Type}(l:List Param)(nm:A2)(F:Param->α)(d:α)(y:α)(hd:y≠d) :
  ((match l[(Hj l nm).toNat]? with|some f=>if Hj l nm<0 then d else F f|none=>d)=y)↔∃(k:Nat) (f:Param),Hj l nm=k/\l[k]?=some f/\F f=y:=by
 grind
theorem Nf{c:Cf}{e:Ex}{t:Ty}:Eh c e=(t,none) ↔
  (e.kind=1/\∃(k:Nat) (f:Param),Hj c.vars e.name=k/\c.vars[k]?=some f/\t=f.type) \/
  (e.kind=3/\Bk c.p c.env e.type=none/\Ju c e.type=true/\Y3 c ((Bx c.p e.type).map (·.type)) e.kids/\t=e.type) \/
  ∃(v:Ex) (vs:List Ex) (x:Ty),e.kids=v::vs/\Eh c v=(x,none) /\
   ((e.kind=2/\∃s,Pp c e x=.inr s/\Y3 c (Xq s e.targs) vs/\t=s.result.subst (Ad s.A1) e.targs) \/
    (e.kind=4/\Ju c x=true/\∃(k:Nat) (f:Param),Hj (Bx c.p x) e.name=k/\(Bx c.p x)[k]?=some f/\t=f.type) \/
    (e.kind=5/\Bk c.p c.env e.type=none/\(c.strict=true->Sq c x e.type=true)/\t=e.type)):=by
 rw[E0q];unfold B8q;by_cases k1:e.kind=1
 .rw[A8 k1];unfold C6p;refine(E1a c.vars e.name (λf=>(f.type,(none:Option Int))) (Kq e.pos) (t,none) (by simp[Kq])).trans ?_
  grind
 rw[A6 k1];by_cases k3:e.kind=3
 .rw[A8 k3];unfold C2e;constructor
  .intro h;split at h
   .exact(A3d.1 h).elim
   .rename_i hc;split at h
    .exact(A3d.1 h).elim
    .rename_i hs;obtain⟨L,V⟩:=B7j.1 h;have Z:Ju c e.type=true:=by cases hh:Ju c e.type with|true=>rfl|false=>grind
     have hl:(Bx c.p e.type).length=e.kids.length:=Am7 λhh=>hs (.inr hh);exact .inr (.inl ⟨k3,hc,Z,⟨by grind,(B2f _ _ (by grind)).1 L⟩,V⟩)
  .rintro(⟨h,_⟩|⟨_,hc,hs,I,rfl⟩|⟨_,_,_,_,_,h|h|h⟩)
   .omega
   .rw[hc];simp only;have hl:(Bx c.p e.type).length=e.kids.length:=by simpa using I.1
    rw[A6 (by grind)];exact B7j.2 ⟨(B2f _ _ I.1).2 I.2,rfl⟩
   all_goals omega
 rw[A6 k3];by_cases k2:e.kind≠2/\e.kind≠4/\e.kind≠5
 .rw[A8 k2]
  grind[A3d]
 rw[A6 k2];cases E:e.kids with
 |nil =>grind[A3d]
 |cons v vs =>
  simp only[Ck];have O:∀Q:Prop,((e.kind=1/\Q)\/(e.kind=3/\Bk c.p c.env e.type=none/\Ju c e.type=true/\Y3 c ((Bx c.p e.type).map (·.type)) (v::vs)/\t=e.type)\/∃(v':Ex) (U:List Ex) (x:Ty),v::vs=v'::U/\Eh c v'=(x,none) /\
   ((e.kind=2/\∃s,Pp c e x=.inr s/\Y3 c (Xq s e.targs) U/\t=s.result.subst (Ad s.A1) e.targs) \/
    (e.kind=4/\Ju c x=true/\∃(k:Nat) (f:Param),Hj (Bx c.p x) e.name=k/\(Bx c.p x)[k]?=some f/\t=f.type) \/
    (e.kind=5/\Bk c.p c.env e.type=none/\(c.strict=true->Sq c x e.type=true)/\t=e.type)))↔∃x,Eh c v=(x,none) /\
   ((e.kind=2/\∃s,Pp c e x=.inr s/\Y3 c (Xq s e.targs) vs/\t=s.result.subst (Ad s.A1) e.targs) \/
    (e.kind=4/\Ju c x=true/\∃(k:Nat) (f:Param),Hj (Bx c.p x) e.name=k/\(Bx c.p x)[k]?=some f/\t=f.type) \/
    (e.kind=5/\Bk c.p c.env e.type=none/\(c.strict=true->Sq c x e.type=true)/\t=e.type)):=by
   intro Q;constructor
   .grind
   .grind
  rw[O];rcases hv:Eh c v with⟨x,o⟩
  cases o with
  |some q =>simp only[A3d,false_iff];simp
  |none =>
   simp only;have hx:∀R:Ty->Prop,(∃y,(x,(none:Option Int))=(y,none)/\R y)↔R x:=λR=>⟨λ⟨y,h,r⟩=>by cases h;exact r,λr=>⟨x,rfl,r⟩⟩;rw[hx];by_cases W:e.kind=2
   .rw[A8 W];unfold C5n;constructor
    .intro h;split at h
     .exact(A3d.1 h).elim
     .rename_i s hs;obtain⟨L,V⟩:=B7j.1 h;have hl:=(A6i.1 hs).2.2.2.2.2;rw[E,Bg]at hl;rw[E]at L;have J:(Xq s e.targs).length=vs.length:=by unfold Xq;rw[Bc];omega
      exact .inl ⟨W,s,hs,⟨J,(B2f _ _ J).1 L⟩,V⟩
    .rintro(⟨_,s,hs,I,rfl⟩|⟨h,_⟩|⟨h,_⟩)
     .rw[hs];simp only;rw[E];exact B7j.2 ⟨(B2f _ _ I.1).2 I.2,rfl⟩
     all_goals omega
   rw[A6 W];by_cases e4:e.kind=4
   .rw[A8 e4];unfold C3i;constructor
    .intro h;split at h
     .exact(A3d.1 h).elim
     .rename_i hs;obtain⟨k,f,L,V,h3⟩:=(E1a (Bx c.p x) e.name (λf=>(f.type,(none:Option Int))) (Kq e.pos) (t,none) (by simp[Kq])).1 h
      grind
    grind
   rw[A6 e4];unfold C6r;constructor
   .grind[A3d]
   grind
def D9j{p:Prog}{x y:Ty}(h:x.er=y.er):(Bx p x).map Param.er=(Bx p y).map Param.er:=by grind[A5t,Bx,A4m,fieldsD,List.map_congr_left,D7n]
def A4h{α β:Type}{f:α->β}{l m:List α}(h:l.map f=m.map f){i:Nat}{x:α}(E:l[i]?=some x):∃y,m[i]?=some y/\f y=f x:=by
 have:(l.map f)[i]?=(m.map f)[i]?:=by rw[h]
 grind
def A1m{s E:A3}(h:E.er=s.er):E.name=s.name/\E.A1.map Ah.er=s.A1.map Ah.er/\E.params.map Param.er=s.params.map Param.er/\E.result.er=s.result.er:=by grind[A3.er]
def F7x{p:Prog}{env:List Ah}{x y:Ty}(J:Bh p y 1=true)(h:Cv p env x y=true):x.er=y.er:=by
 have I:¬isIface p env y=true:=λE=>by unfold isIface at E;rw[Bb]at E;have:=(Ps E.1).1;grind[Ps]
 unfold Cv at h;rw[A6 I,Sx]at h;exact h
section
variable {p:Prog} {env env':List Ah} {v:List A2} {a:List Ty}
def F1y(hp:PW p)(sb:Sb p env env' v a)(ha:∀u,u∈a->Bk p env' u=none){st:Bool}{vars E:List Param}{e L:Ex}{t:Ty}
  (hk:L.kind=e.kind)(hn:L.name=e.name)(ht:L.type=e.type.subst v a)(hg:L.targs=e.targs.map (Ty.subst v a))(hl:L.kids.length=e.kids.length)(h1:e.kind≠1)
  (h:Eh ⟨p,st,env,vars⟩ e=(t,none))
  (ih:∀(i:Nat) (k k':Ex) (K:Ty),e.kids[i]?=some k->L.kids[i]?=some k'->Eh ⟨p,st,env,vars⟩ k=(K,none)->∃K',Eh ⟨p,false,env',E⟩ k'=(K',none)/\Cv p env' K' (K.subst v a)=true) :
  ∃t',Eh ⟨p,false,env',E⟩ L=(t',none)/\Cv p env' t' (t.subst v a)=true:=by
 have kids:∀(W I:List Ty) (es Z:List Ex) (off:Nat),Y3 ⟨p,st,env,vars⟩ W es->es.length=Z.length->I.length=W.length ->
   (∀(i:Nat) (k:Ex),es[i]?=some k->e.kids[i+off]?=some k)->(∀(i:Nat) (k:Ex),Z[i]?=some k->L.kids[i+off]?=some k) ->
   (∀(i:Nat) (w w':Ty),W[i]?=some w->I[i]?=some w'->w'.er=(w.subst v a).er)->Y3 ⟨p,false,env',E⟩ I Z:=by
  intro W I es Z off hK ai V h1 h2 h3;refine⟨by rw[V,hK.1,ai],λi w' k' J U=>?_⟩;have hi:i<W.length:=by rw[<-V];exact(Az.1 J).1
  have hw:W[i]?=some W[i]:=Bi hi;have ab:i<es.length:=by rw[<-hK.1];exact hi
  have a7:es[i]?=some es[i]:=Bi ab;obtain⟨K,c1,c2⟩:=hK.2 i _ _ hw a7;obtain⟨K',d1,d2⟩:=ih (i+off) _ k' K (h1 i _ a7) (h2 i k' U) c1;exact⟨K',d1,X7 d2 (X7 (B6c hp sb c2) (Y6 (h3 i _ w' hw J).symm))⟩
 rcases Nf.1 h with⟨h,_⟩|⟨k3,hc,hs,hK,rfl⟩|⟨w,W,x,a8,hx,a4⟩
 .omega
 .obtain⟨i1,i2⟩:=C0r.1 hs;obtain⟨_,j2,_,j4⟩:=sb.inst (by decide) i1;have hf:=E0i hp sb i1;refine⟨L.type,Nf.2 (.inr (.inl ⟨by omega,?_,?_,?_,rfl⟩)),?_⟩
  .grind[Yt]
  .grind[C0r]
  .refine kids _ _ _ _ 0 hK hl.symm ?_ (λi k h=>h) (λi k h=>h) ?_
   .grind
   .intro i y y' J U;rw[ht]at U;have U:((Bx p (e.type.subst v a)).map (·.type))[i]?=some y':=U;have J:((Bx p e.type).map (·.type))[i]?=some y:=J;rw[hf,Ff,Df,Jv]at U;rw[Df,Jv]at J;obtain⟨f,f1,rfl⟩:=J;obtain⟨f',f2,rfl⟩:=U;rw[f1]at f2;cases f2;rfl
  grind[C5e]
 .have ap:0<L.kids.length:=by rw[hl,a8];simp
  cases O:L.kids with
  |nil=>grind
  |cons w' I =>
   have V:I.length=W.length:=by rw[a8,O]at hl;simpa using hl
   obtain⟨x',a2,a6⟩:=ih 0 w w' x (by grind) (by grind) hx;rcases a4 with⟨k2,s,hs,hK,rfl⟩|⟨k4,hs,k,f,a0,a3,rfl⟩|⟨k5,hc,_,rfl⟩
   .obtain⟨s1,s2,s3,s4,s5,s6⟩:=A6i.1 hs;simp only at s1 s2 s3 s4 s5 s6;obtain⟨r1,ag,ak⟩:=D4k hp sb s1;obtain⟨s',ae,af⟩:=A7v a6 r1 ag;obtain⟨q1,q2,q3,q4⟩:=A1m (af.trans ak);have aj:=(C2z s s1).fs;have a1:∀n,n∈Ad s.A1->N0 n:=λn hn=>by
     rw[aj]at hn;obtain⟨i,_,rfl⟩:=Au.1 hn;exact⟨i,rfl⟩
    have ac:Ad s'.A1=Ad s.A1:=by rw[<-X5 s'.A1,q2,X5];simp only[A3.subst,Ad,Ff];rfl
    have a5:∀(b b':Ty),b'.er=(b.subst v a).er->(b'.subst (Ad s'.A1) L.targs).er=((b.subst (Ad s.A1) e.targs).subst v a).er:=by intro b b' hb;rw[F9j (λn hn=>sb.out (.inl (a1 n hn))) (λu hu=>(sb.clean u hu).mono λn hn hm=>hn (a1 n hm)),Ik,Ik,hb,ac,hg]
    have ao:s'.A1.length=s.A1.length:=by have:=Gi List.length q2;simpa [A3.subst]using this
    have am:s'.params.length=s.params.length:=by have:=Gi List.length q3;simpa [A3.subst]using this
    have a9:Pp ⟨p,false,env',E⟩ L x'=.inr s':=by
     rw[A6i];simp only;refine⟨ae,by rw[q1,hn];exact s2,by grind,λu hu=>?_,?_,by omega⟩
     .rw[hg]at hu;obtain⟨u0,aa,rfl⟩:=Au.1 hu;exact Yt hp sb ha (s4 u0 aa)
     .rw[Zj]at s5 |-;intro i f' u' f1 f2;obtain⟨g,J,U⟩:=A4h q2 f1;simp only[A3.subst]at J;rw[Df,Jv]at J;obtain⟨f,f3,rfl⟩:=J;rw[hg,Df,Jv]at f2;obtain⟨u,f4,rfl⟩:=f2;have hb:=Gi Ah.bound U;exact X7 (B6c hp sb (s5 i f u f3 f4)) (Y6 (a5 f.bound f'.bound hb.symm).symm)
    refine⟨_,Nf.2 (.inr (.inr ⟨w',I,x',O,a2,.inl ⟨by omega,s',a9,?_,rfl⟩⟩)),?_⟩
    .refine kids _ _ _ _ 1 hK V.symm (by simp[Xq,am]) (λi k h=>by grind) (λi k h=>by grind) ?_;intro i y y' J U;unfold Xq at J U;rw[Df,Jv]at J U;obtain⟨f,f1,rfl⟩:=J;obtain⟨f',f2,rfl⟩:=U;obtain⟨g,h1,h2⟩:=A4h q3 f2;simp only[A3.subst]at h1;rw[Df,f1]at h1;simp only[Ez,B5]at h1;subst h1;exact a5 _ _ (Gi Param.type h2).symm
    .exact Y6 (a5 _ _ q4)
   .obtain⟨i1,i2⟩:=C0r.1 hs;obtain⟨_,j2,_,j4⟩:=sb.inst (by decide) i1;have hex:=F7x j2 a6;have a':(Bx p x').map Param.er=((Bx p x).map (Param.subst v a)).map Param.er:=by rw[<-E0i hp sb i1];exact D9j hex
    have ad:(Bx p x').map (·.name)=(Bx p x).map (·.name):=by have:=Gi (List.map Param.name) a';simp only[Ff]at this;exact this
    have ah:(((Bx p x).map (Param.subst v a)))[k]?=some (f.subst v a):=by have a3:(Bx p x)[k]?=some f:=a3;rw[Df,a3];rfl
    obtain⟨f',f1,f2⟩:=A4h a'.symm ah;refine⟨f'.type,Nf.2 (.inr (.inr ⟨w',I,x',O,a2,.inr (.inl ⟨by omega,?_,k,f',?_,f1,rfl⟩)⟩)),?_⟩
    .grind[C0r,A4m,B9q]
    .have a0:Hj (Bx p x) e.name=k:=a0;show Hj (Bx p x') L.name=k;unfold Hj at a0 |-;rw[A6v,ad,hn,<-A6v,a0]
    .exact Y6 (Gi Param.type f2)
   .refine⟨L.type,Nf.2 (.inr (.inr ⟨w',I,x',O,a2,.inr (.inr ⟨by omega,?_,(λh=>by cases h),rfl⟩)⟩)),?_⟩
    .grind[Yt]
    grind[C5e]
def P0(v:List A2)(a:List Ty)(e:Ex):e.subst v a=.mk e.kind e.name (e.type.subst v a) (e.targs.map (Ty.subst v a)) (e.kids.map (Ex.subst v a)) e.pos:=by unfold Ex.subst;rw[A1e];rfl
def F6t(names:List A2)(E:List Ex)(e:Ex):e.Rv names E=B2u names E (e.Vr (e.kids.map (Ex.Rv names E))):=by unfold Ex.Rv;rw[A1e]
end
end Go.Abs
/- a step keeps the type of an expression, or makes it smaller -/
namespace Go.Abs
open Go Go.Proofs
theorem G4k(u:Nat):(Lib.decDigits u).foldl (λa b=>10*a+(b.toNat - 48)) 0=u:=by
 induction u using Nat.strongRecOn with|_ u E=>?_
 grind[Lib.decDigits,UInt8.toNat_ofNat']
theorem H0n{i j:Nat}(h:E0 i=E0 j):i=j:=by
 unfold E0 Lib.itoa at h;simp only[Z2,Qi]at h;rw[A6 (by omega),A6 (by omega)]at h;have:=Gi (List.foldl (λa b=>10*a+(b.toNat - 48)) 0) h
 grind[G4k]
def G5b{n k:Nat}(h:k<n):D5 (E0 k) ((List.range n).map E0) 0=k:=by grind[A3o,H0n]
theorem A7s{n:A2}(h:isName n=true):¬N0 n:=by
 rintro⟨i,rfl⟩;have E:cls (UInt8.toNat 36)≠1:=by decide
 unfold E0 isName at h
 grind
def E1u{p:Prog}:∀{l pre:List Ah},A3p p pre l=none->∀(i:Nat)(f:Ah),l[i]?=some f->kindOf p f.name=0/\f.name∉Ad pre/\f.name∉Ad (l.take i)
 |[],_,_=>by simp
 |x::l,pre,h=>by
  intro i f I;rw[A3p]at h;split at h
  .cases h
  .rename_i V;obtain⟨J,U⟩:=Vc.1 V;cases i with
   |zero=>simp at I;subst I;exact⟨Am7 J,U,by simp[Ad]⟩
   |succ i =>obtain⟨L,E,O⟩:=E1u h i f (by grind);simp only[Ad,G0,Bz,Vc,Ck,G3,U0]at E;refine⟨L,E.1,?_⟩;simp only[Am1,Ad,Ck,B1,Vc];exact⟨E.2,O⟩
def E8h{p:Prog}{all:List Ah}:∀{l:List Ah},A2h p all l=none->∀f,f∈l->Bk p all f.bound=none/\isIface p all f.bound=true
 |[],_=>by simp
 |x::l,h=>by
  rw[A2h]at h;intro f hf;split at h
  .cases h
  .rename_i I;split at h
   .rename_i E;rcases B1.1 hf with rfl|hf
    .grind
    .exact E8h h f hf
   grind
def A0y{p:Prog}{env l:List Ah}(h:Sj p env l=none):(∀(i:Nat)(f:Ah),l[i]?=some f->kindOf p f.name=0/\f.name∉Ad env/\f.name∉Ad (l.take i))/\∀f,f∈l->Bk p (env++l) f.bound=none/\isIface p (env++l) f.bound=true:=by
 unfold Sj at h;split at h
 .cases h
 .rename_i E;exact⟨E1u E,E8h h⟩
theorem C2p{p:Prog}{env:List Ah}:∀{l:List Param} {pre:List A2},Np p env pre l=none->∀f,f∈l->Bk p env f.type=none
 |[],_,_=>by simp
 |x::l,pre,h=>by
  rw[Np]at h;intro f hf;split at h
  .cases h
  .split at h
   .cases h
   .rename_i E;rcases B1.1 hf with rfl|hf
    .exact E
    .exact C2p h f hf
def A6n{p:Prog}{env:List Ah}{s:A3}(h:Mt p env s=none):Sj p env s.A1=none/\(∀f,f∈s.params->Bk p (env++s.A1) f.type=none)/\Bk p (env++s.A1) s.result=none:=by grind[Mt,C2p]
def D5r{p:Prog}{env:List Ah}:∀{l:List A3} {pre:List A2},X0 p env pre l=none->∀s,s∈l->Mt p env s=none
 |[],_,_=>by simp
 |x::l,pre,h=>by
  rw[X0]at h;intro s hs;split at h
  .cases h
  .split at h
   .cases h
   .rename_i E;rcases B1.1 hs with rfl|hs
    .exact E
    .exact D5r h s hs
def E7w{p:Prog}:∀{l pre:List A2},A0e p pre l=false->∀(i:Nat)(v:A2),l[i]?=some v->kindOf p v=0/\v∉pre/\v∉l.take i
 |[],_,_=>by simp
 |x::l,pre,h=>by
  intro i f E;rw[A0e,An6,Z1]at h;obtain⟨I,U⟩:=Vc.1 h.1;cases i with
  |zero=>grind
  |succ i =>
   obtain⟨L,J,O⟩:=E7w h.2 i f (by grind)
   grind
def HW(p:Prog):Prop:=∀(i:Nat)(d:Decl),p.decls[i]?=some d->Xo p i d=none
def A7m{p:Prog}{x:A2}{d:Decl}(h:F7 p x=some d):(d.kind=1\/d.kind=2)/\d.name=x/\d∈p.decls:=by
 unfold F7 at h;have E:=At2 h;have I:=Am5 h;unfold Decl.Fv at E
 grind
def A0h{p:Prog}(U:HW p){x:A2}{d:Decl}(h:F7 p x=some d):Sj p [] d.A1=none/\(d.kind=1->∀f,f∈d.fields->Bk p d.A1 f.type=none)/\(d.kind=2->∀s,s∈d.sigs->Mt p d.A1 s=none):=by
 obtain⟨L,V,J⟩:=A7m h;obtain⟨i,O⟩:=Qu J;have E:=U i d O;unfold Xo at E;rw[A8 L]at E;unfold B3a at E;split at E
 .cases E
 .split at E
  .cases E
  .rename_i I;refine⟨I,λk1=>?_,λk2=>?_⟩
   .rw[A8 k1]at E
    grind[C2p]
   .rw[A6 (by omega)]at E;exact D5r E
def B9j{p:Prog}(U:HW p){d:Decl}(hd:d∈p.decls)(L:d.kind=3):kindOf p d.name=1/\d.vars.length=(Em p d.name).length/\A0e p [] d.vars=false/\Mt p (Hf p d) d.sig=none:=by
 obtain⟨i,O⟩:=Qu hd;have E:=U i d O;unfold Xo at E;rw[A6 (by omega),A8 L]at E;unfold B1t at E;split at E
 .cases E
 .rename_i I;obtain⟨I,V⟩:=Vc.1 I;split at E
  .cases E
  .rename_i W;split at E
   .cases E
   .cases J:Mt p (Hf p d) d.sig with
    |some q=>rw[J]at E;cases E
    |none=>grind
def E7e{p:Prog}{d:Decl}(h:d.vars.length=(Em p d.name).length):Ad (Hf p d)=d.vars:=by unfold Hf Ad;rw[Ff];exact List.map_snd_zip (by omega)
theorem C7q{p:Prog}(hr:p.right=true){d:Decl}(hd:d∈p.decls):isName d.name=true/\(∀v,v∈d.vars->isName v=true)/\(d.kind=3->∀f,f∈d.sig.A1->isName f.name=true):=by
 unfold Prog.right at hr;rw[Bb,Dm]at hr;have h:=hr.1 d hd;unfold Decl.right at h;simp at h;refine⟨h.1,h.2.2.2.2.1,λI f J=>?_⟩;have E:=h.2.2.2.2.2;unfold Decl.T2 at E;rw[A8 I]at E;unfold A3.right Pr at E
 grind
def A7f{p:Prog}(hr:p.right=true)(O:HW p):PW p:=by
 refine⟨λn V=>?_,λx d hd f E=>?_,λx d hd I f E=>?_,λx d hd I s hs=>?_,λd hd I=>?_⟩
 .obtain⟨d,hd,_,_⟩:=A8m V;obtain⟨_,J,L⟩:=A7m hd
  grind[A7s,C7q]
 .exact A0s (by have:=((A0y (A0h O hd).1).2 f E).1;grind)
 .exact A0s ((A0h O hd).2.1 I f E)
 .obtain⟨U,J,L⟩:=A6n ((A0h O hd).2.2 I s hs);have key:∀t:Ty,Bk p (d.A1++s.A1) t=none->t.Lf λn=>n∈Ad s.A1\/(n∈Ad d.A1\/kindOf p n≠0):=λt ht =>
   (A0s ht).mono λn V=>by grind[Ad]
  exact⟨λf E=>key _ ((A0y U).2 f E).1,λf E=>key _ (J f E),key _ L⟩
 .obtain⟨_,W,_,g4⟩:=B9j O hd I;obtain⟨U,J,L⟩:=A6n g4;have Z:=E7e W;have key:∀t:Ty,Bk p (Hf p d++d.sig.A1) t=none->t.Lf λn=>n∈Ad d.sig.A1\/(n∈d.vars\/kindOf p n≠0):=λt ht =>
   (A0s ht).mono λn V=>by grind[Ad]
  exact⟨λf E=>key _ ((A0y U).2 f E).1,λf E=>key _ (J f E),key _ L⟩
def E8k{F:List A2}{vars E:List A2}{A B:List Ty}{n:Nat}{K:A2->Prop}(hF:F.length=n)(hB:B.length=n)(hA:vars.length=A.length)(J:E=(List.range n).map E0)
  (hd:∀m,m∈vars->m∉F)(hv:∀m,m∈vars->¬N0 m)(hK:∀m,K m->¬N0 m)(hc:∀u,u∈A->u.Lf λn=>¬N0 n)(b:Ty)(hb:b.Lf λm=>m∈F\/(m∈vars\/K m)) :
  ((b.subst F (D8 n)).subst vars A).subst E B=b.subst (vars++F) (A++B):=by
 have L:∀m,m∈E->N0 m:=λm W=>by rw[J]at W;obtain⟨i,_,rfl⟩:=Au.1 W;exact⟨i,rfl⟩
 induction b using Ty.induct with|_ b ih=>?_
 by_cases I:b.args=[]
 .have e0:∀v a,Hh v a b.name=none->b.subst v a=b:=λv a hh=>by
   rw[Iq λ_=>hh,I];cases b;simp only[Ty.args]at I;subst I;rfl
  by_cases U:b.name∈vars
  .have O:=hd _ U;obtain⟨k,u,_,_,Z,g4⟩:=A3h U (args:=A) (by omega);have a0:=hc u (C6 Z);rw[e0 F _ (P4 O),Rq I g4,Rq (vars:=vars++F) (u:=u) I (by rw[B1m hA,A8 U];exact g4),D3x];exact .of (λh W=>a0.name h (L _ W)) λx hx=>(a0.arg x hx).mono λm W a1=>W (L _ a1)
  .by_cases O:b.name∈F
   .obtain⟨k,u,g1,g2,Z,g4⟩:=A3h O (args:=D8 n) (by simp[D8,hF]);have hk:k<n:=by have:=(Az.1 Z).1;simpa [D8]using this
    have hu:u=U7 k:=by unfold D8 at Z;rw[Df,Am0 hk]at Z;simpa using Z.symm
    subst hu;obtain⟨V,w,k1,k2,k3,k4⟩:=A3h O (args:=B) (by omega);have a3:V=k:=by omega
    subst a3;rw[Rq I g4];show Ty.subst E B (Ty.subst vars A (.mk (E0 V) [] b.pos))=_;have a2:Hh E B (E0 V)=some w:=by unfold Hh;rw[J,G5b hk,A8 (by omega),Je];exact k3
    rw[Iq (t:=.mk (E0 V) [] b.pos) λ_=>P4 λhh=>hv _ hh ⟨V,rfl⟩];show Ty.subst E B (.mk (E0 V) [] b.pos)=_;rw[Rq (t:=.mk (E0 V) [] b.pos) (u:=w) rfl a2,Rq (vars:=vars++F) (u:=w) I (by rw[B1m hA,A6 U];exact k4)];rfl
   .have h3:K b.name:=by
     rcases hb.name I with h|h|h
     .exact absurd h O
     .exact absurd h U
     .exact h
    rw[e0 F _ (P4 O),e0 vars _ (P4 U),e0 E _ (P4 λhh=>hK _ h3 (L _ hh)),e0 (vars++F) _ (by rw[B1m hA,A6 U,P4 O])]
 .rw[Iq λh=>absurd h I,Iq (t:=.mk _ _ _) λh=>absurd h (by simpa [Hs]using I),Iq (t:=.mk _ _ _) λh=>absurd h (by simpa [Hs]using I),Iq (t:=b) λh=>absurd h I];simp only[Hs,Qj,mkQ,Ff]
  congr 1
  exact Ie λu hu=>ih u hu (hb.arg u hu)
abbrev F8s(p:Prog):Cf:=⟨p,false,[],[]⟩
def A5p{p:Prog}{x:Ty}{s:A3}(O:Bh p x 1=true)(hs:s∈Cw p [] x):∃d,d∈p.decls/\d.kind=3/\d.name=x.name/\d.vars.length=x.args.length/\s=d.sig.canon.subst d.vars x.args/\Jr p x s.name=some d:=by
 unfold Cw at hs;have Z:Cs [] x=none:=by unfold Cs Ep;simp
 rw[Z]at hs;simp at hs;have U:¬Bh p x 2=true:=λh=>by have:=(Ps h).1;grind[Ps]
 rw[A6 U]at hs;unfold Gk at hs;rw[Au]at hs;obtain⟨⟨d,i⟩,hd,rfl⟩:=hs;rw[Jz]at hd;have L:=hd.2;unfold Ii at L;simp at L;obtain⟨⟨W,hn⟩,E⟩:=L;have J:p.decls[i]?=some d:=by have:=hd.1;rw[Ci]at this;obtain⟨_,U,V⟩:=List.mem_zipIdx this;simp at V;rw[V];exact Bi _
 have I:N1 p x.name d.sig.name=(i:Int)/\d.vars.length=x.args.length:=by
  unfold Kb at E;rw[A8 O]at E;split at E
  .grind
  .omega
 refine⟨d,C6 J,W,hn,I.2,rfl,?_⟩;show Jr p x d.sig.name=some d;unfold Jr;rw[A8 O];have hf:p.decls.find? (Fk x.name d.sig.name)=some d:=by
  unfold N1 Dr at I;cases h:p.decls.findIdx? (Fk x.name d.sig.name)with
  |none=>grind
  |some j =>grind[List.findIdx?_eq_some_iff_getElem,List.find?_eq_some_iff_getElem]
 grind
theorem G5a{l:List A2}(h:∀(i:Nat)(v:A2),l[i]?=some v->v∉l.take i){i:Nat}{v:A2}(E:l[i]?=some v):D5 v l 0=i:=by
 have:=Tt (p:=λx:A2=>decide (x=v)) E (by simp) λy I=>by grind
 rw[<-this,A6v (λx:A2=>x) v l,List.map_id']
theorem F8m{vars:List A2}{args:List Ty}{n:A2}{k:Nat}{u:Ty}(h:D5 n vars 0=k)(E:args[k]?=some u):Hh vars args n=some u:=by
 unfold Hh
 grind
section
variable {p:Prog}
def G8u{p:Prog}{d:Decl}(J:∀(i:Nat)(v:A2),d.vars[i]?=some v->v∉d.vars.take i){F:List A2}{A B:List Ty}(L:d.vars.length=A.length):((H6 d.vars).map (Ty.subst (d.vars++F) (A++B))).map Ty.er=A.map Ty.er:=by
 refine Ld λi=>?_;simp only[H6,Ff,Df];cases E:d.vars[i]? with
 |none =>grind
 |some v =>
  have O:=(Az.1 E).1;have I:A[i]?=some (A[i]'(by omega)):=Bi (by omega);rw[I];simp only[Ez,Function.comp]
  congr 1
  rw[Rq (t:=.mk v [] 0) (u:=A[i]'(by omega)) rfl]
  .exact C1m
  .rw[Qj,B1m L,A8 (C6 E)]
   grind[F8m,G5a]
structure D7t(p:Prog)(d:Decl)(x:Ty)(targs:List Ty):Prop where
 sb:Sb p (Hf p d++d.sig.A1) [] (d.vars++Ad d.sig.A1) (x.args++targs)
 wf:∀u,u∈x.args++targs->Bk p [] u=none
 self:((B0g d).subst (d.vars++Ad d.sig.A1) (x.args++targs)).er=x.er
 inst:∀b:Ty,Bk p (Hf p d++d.sig.A1) b=none->((b.subst (Ad d.sig.A1) (D8 d.sig.A1.length)).subst d.vars x.args).subst (Ad d.sig.canon.A1) targs=b.subst (d.vars++Ad d.sig.A1) (x.args++targs)
def called(hr:p.right=true)(hw:HW p){d:Decl}(hd:d∈p.decls)(hk:d.kind=3){x:Ty}(hx:Bk p [] x=none)(hi:Bh p x 1=true)(L:d.name=x.name){targs:List Ty}(ac:d.sig.A1.length=targs.length)
  (ht:∀t,t∈targs->Bk p [] t=none)(hb:H5 p [] (d.sig.canon.subst d.vars x.args).A1 targs<0):D7t p d x targs:=by
 have hp:=A7f hr hw;obtain⟨m1,m2,m3,m4⟩:=B9j hw hd hk;obtain⟨s1,s2,s3⟩:=A6n m4;obtain⟨f1,f2⟩:=A0y s1;have W:=E7e m2;obtain⟨x1,x2⟩:=Ps hi;have a0:d.vars.length=x.args.length:=by rw[m2,L,x2]
 have hv:=E7w m3;obtain⟨r1,r2,r3⟩:=C7q hr hd;have a6:(∀u,u∈x.args->Bk p [] u=none)/\H5 p [] (Em p x.name) x.args<0:=by
  rcases A4d.1 hx with h|⟨_,_,h3,h4⟩
  .grind[Cs]
  .grind
 have ab:∀u,u∈x.args++targs->Bk p [] u=none:=λu I=>(Bz.1 I).elim (a6.1 u) (ht u);have a7:∀u,u∈x.args++targs->u.Lf λn=>¬N0 n:=λu I=>(A0s (ab u I)).mono λn L=>L.elim (by simp[Ad]) (hp.name n);have af:(Ad d.sig.A1).length=d.sig.A1.length:=by simp[Ad]
 have a4:∀m,m∈d.vars->m∉Ad d.sig.A1:=λm hm hf=>by
  obtain⟨f,ag,ai⟩:=Au.1 hf
  grind[List.getElem?_of_mem]
 have a3:Ad d.sig.canon.A1=(List.range d.sig.A1.length).map E0:=by rw[(A9b d.sig).fs];simp[A3.canon,Ha]
 have a2:∀b:Ty,Bk p (Hf p d++d.sig.A1) b=none->((b.subst (Ad d.sig.A1) (D8 d.sig.A1.length)).subst d.vars x.args).subst (Ad d.sig.canon.A1) targs=b.subst (d.vars++Ad d.sig.A1) (x.args++targs):=λb hb =>
  E8k (K:=λn=>kindOf p n≠0) af ac.symm a0 a3 a4 (λm hm=>A7s (r2 m hm)) hp.name (λu I=>a7 u (List.mem_append_left _ I)) b
   ((A0s hb).mono λn L=>by grind[Ad])
 have U:Ad (Hf p d++d.sig.A1)=d.vars++Ad d.sig.A1:=by rw[<-W];unfold Ad;rw[G0]
 have a9:kindOf p d.name≠0:=by omega
 obtain⟨J,a5,am,O⟩:=A8m a9;obtain⟨t1,t2⟩:=A0y (A0h hw a5).1;have ad:=G8u (p:=p) (d:=d) (λi v h=>(hv i v h).2.2) (F:=Ad d.sig.A1) (A:=x.args) (B:=targs) a0;have E:∀n,n∈d.vars++Ad d.sig.A1->kindOf p n=0/\¬N0 n:=λn L=>by
  rcases Bz.1 L with h|h
  .grind[List.getElem?_of_mem,A7s]
  .obtain⟨f,ag,rfl⟩:=Au.1 h
   grind[List.getElem?_of_mem,A7s]
 have Z:∀n,n∈Ad (Hf p d++d.sig.A1)->kindOf p n=0:=λn L=>(E n (by grind)).1;have aa:∀(l:Ah),l∈J.A1->∀a:List Ty,(l.bound.subst (Ad J.A1) a).name=l.bound.name/\(l.bound.subst (Ad J.A1) a).args.length=l.bound.args.length/\Bh p l.bound 2=true:=by
  intro l hl a;have V:=(t2 l hl).2;simp at V;unfold isIface at V;rw[Bb]at V;have a1:Cs J.A1 l.bound=none:=by
   cases hh:Cs J.A1 l.bound with
   |none=>rfl
   |some y=>grind
  have:l.bound.subst (Ad J.A1) a=.mk l.bound.name (l.bound.args.map (Ty.subst (Ad J.A1) a)) l.bound.pos:=Iq λha=>P4 (D0c a1 ha);rw[this];exact⟨rfl,by simp[Hs],V.1⟩
 refine⟨⟨U.symm,by grind,E,by simp[Ad],a7,λf hf=>?_,λi f u hf I=>?_⟩,ab,?_,a2⟩
 .rcases Bz.1 hf with hf|hf
  .unfold Hf at hf;obtain⟨⟨l,w⟩,hz,rfl⟩:=Au.1 hf;have hl:l∈J.A1:=by rw[<-O];exact(At3 hz).1
   obtain⟨g1,g2,g3⟩:=aa l hl (H6 d.vars);unfold isIface;simp only;rw[O,Bb];refine⟨D5s g3 g1 g2,?_⟩;rw[B3h Z (by grind[Ps])];rfl
  grind
 .by_cases aj:i<d.vars.length
  .have a':(Hf p d).length=d.vars.length:=by have:=Gi List.length W;simpa [Ad]using this
   rw[L4 (by omega)]at hf I;unfold Hf at hf;rw[Df,Jv]at hf;obtain⟨⟨l,w⟩,hz,rfl⟩:=hf;rw[Am2]at hz;have ah:=Zj.1 a6.2 i l u (by grind) I;refine X7 ah (Y6 ?_);simp only;rw[<-L,O];have hl:l∈J.A1:=by rw[<-O];exact C6 hz.1
   rw[A8w _ _ _ _ (by grind[Ad,H6]) _ ((hp.bnd _ J a5 l hl).mono λn L=>L.imp_right λh hm=>h (E n hm).1),Ik,Ik,ad]
  .have a':(Hf p d).length=d.vars.length:=by have:=Gi List.length W;simpa [Ad]using this
   rw[Kd (by omega)]at hf I;rw[a']at hf;rw[<-a0]at I;have ao:=C6 hf;have ae:(d.sig.canon.subst d.vars x.args).A1[i - d.vars.length]?=some ⟨E0 (i - d.vars.length),(f.bound.subst (Ad d.sig.A1) (D8 d.sig.A1.length)).subst d.vars x.args,f.pos⟩:=by have a8:=(Az.1 hf).1;simp only[A3.subst,A3.canon,Ha];rw[Df,Sd,hf];simp only[Ez,Ah.subst,A8 a8]
   have:=Zj.1 hb _ _ u ae I;simp only at this;have ak:Ad (d.sig.canon.subst d.vars x.args).A1=Ad d.sig.canon.A1:=by simp only[A3.subst,Ad,Ff];rfl
   grind
 .rw[B0v];have a1:(if(B0g d).args=[]then Hh (d.vars++Ad d.sig.A1) (x.args++targs) (B0g d).name else none)=none:=by
   split
   .refine P4 λhm=>?_;have:=(E _ hm).1;exact a9 this
   .rfl
  rw[a1];simp only[B0g,Hs,Qj,mkQ]
  grind[Ht,Qj,Hs]
end
end Go.Abs
/- no expression with a type is stuck -/
namespace Go.Abs
open Go Go.Proofs
end Go.Abs
/- what StepKeeps asks of a step, out of keeps -/
namespace Go.Abs
open Go Go.Proofs
end Go.Abs
/- a program that is well typed, strictly or not, is never stuck, however many steps it makes -/
namespace Go.Abs
open Go Go.Proofs
def E7a{c:Cf}{E:List Ty}{es:List Ex}(O:∀x,x∈es->∀t,Eh c x=(t,none)->Eh { c with strict:=false } x=(t,none))(h:Y3 c E es):Y3 { c with strict:=false } E es :=
 ⟨h.1,λi w k J I=>by
  obtain⟨K,L,U⟩:=h.2 i w k J I
  grind⟩
def lax(c:Cf):∀(e:Ex)(t:Ty),Eh c e=(t,none)->Eh { c with strict:=false } e=(t,none):=by
 intro e
 induction e using Ex.induct with|_ e L=>?_
 intro t h;refine Nf.2 ?_;rcases Nf.1 h with h1|⟨Z,h4,V,O,J⟩|⟨v,vs,x,I,U,hc⟩
 .grind
 .exact .inr (.inl ⟨Z,h4,V,E7a L O,J⟩)
 .have E:∀y,y∈v::vs->∀t,Eh c y=(t,none)->Eh { c with strict:=false } y=(t,none):=λy hy=>L y (by grind);refine .inr (.inr ⟨v,vs,x,I,E v (by simp) x U,?_⟩);rcases hc with⟨k2,s,hs,W,ht⟩|h4|⟨k5,O,_,J⟩
  .exact .inl ⟨k2,s,hs,E7a (λy hy=>E y (by grind)) W,ht⟩
  .exact .inr (.inl h4)
  grind
def D2v:∀l:List Ex,(∀x,x∈l->x.One)->Ex.A1a l
 |[],_=>trivial
 |x::l,h=>by rw[Ex.A1a];exact⟨h x (by simp),D2v l λy E=>h y (by grind)⟩
def Ex.One.of{e:Ex}(h:C4b e)(E:∀x,x∈e.kids->x.One):e.One:=by cases e with|mk k n t a ks q=>rw[Ex.One];exact⟨h,D2v ks E⟩
def D2o{e:Ex}(f:Ex->Ex)(n:A2)(t:Ty)(a:List Ty)(q:Int)(h:e.One)(L:∀x,x∈e.kids->(f x).One):(Ex.mk e.kind n t a (e.kids.map f) q).One :=
 .of ⟨λJ=>by show e.kids.map f=[];rw[h.out.1.1 J];rfl,λI=>by show(e.kids.map f).length=1;rw[Bc];exact h.out.1.2 I⟩ λx E=>by
  obtain⟨y,O,rfl⟩:=Au.1 E
  grind
def Ex.One.subst(v:List A2)(a:List Ty):∀{e:Ex},e.One->(e.subst v a).One:=by
 intro e
 induction e using Ex.induct with|_ e I=>?_
 intro h;rw[P0];exact D2o _ _ _ _ _ h λy E=>I y E (h.out.2 y E)
def Ex.One.Rv{names:List A2}{E:List Ex}(O:∀x,x∈E->x.One):∀{e:Ex},e.One->(e.Rv names E).One:=by
 intro e
 induction e using Ex.induct with|_ e J=>?_
 intro h;rw[F6t];have L:(e.Vr (e.kids.map (Ex.Rv names E))).One:=D2o _ _ _ _ _ h λy I=>J y I (h.out.2 y I)
 grind[B2u]
def C7o{p:Prog}(hr:p.right=true):(∀d,d∈p.decls->d.kind=3->d.body.One)/\p.main.One:=by
 unfold Prog.right at hr;simp at hr;refine⟨λd hd E=>?_,Ex.D8c _ hr.2⟩;have:=hr.1 d hd;unfold Decl.right Decl.T2 at this;rw[A8 E]at this;simp only[Bb]at this
 grind[Ex.D8c]
def D6c{p:Prog}{st:Bool}:∀{l:List Decl} {i:Nat},(Zg p st l i).bad=false->(Dk ⟨p,st,[],[]⟩ p.main).2.bad=false
 |[],_,h=>h
 |x::l,i,h=>by
  rw[Zg]at h;cases E:Xo p i x with
  |some q=>rw[E]at h;cases h
  |none =>
   rw[E]at h;simp only at h;split at h
   .grind
   .exact D6c h
end Go.Abs
