/- substitution of types: composition, exchange; names that a type has -/
import Derived.Test.YtjneockcgjfhaaaGreatDoorKS58
set_option linter.all false
set_option maxHeartbeats 4000000
set_option maxRecDepth 100000
namespace Go.Abs
open Go Go.Proofs
inductive Ty.Lf(S:A2->Prop):Ty->Prop where
 |mk (n:A2) (a:List Ty) (p:Int):(a=[]->S n)->(∀t,t∈a->Ty.Lf S t)->Ty.Lf S (.mk n a p)
variable {t:Ty}
theorem Ty.Lf.name{S:A2->Prop}(h:t.Lf S)(I:t.args=[]):S t.name:=by cases h with|mk n a p E J=>exact E I
def Ty.Lf.arg{S:A2->Prop}(h:t.Lf S):∀u,u∈t.args->u.Lf S:=by cases h with|mk n a p I E=>exact E
def Ty.Lf.of{S:A2->Prop}(E:t.args=[]->S t.name)(I:∀u,u∈t.args->u.Lf S):t.Lf S:=by cases t with|mk n a p=>exact .mk n a p E I
def Ty.Lf.mono{S T:A2->Prop}(h:t.Lf S)(hs:∀n,S n->T n):t.Lf T:=by
 induction t using Ty.induct with
 |h t I=>exact .of (λJ=>hs _ (h.name J)) λu E=>I u E (h.arg u E)
def Hu(vars:List A2)(args:List Ty)(n:A2):Option Ty:=if 0<=Cb n vars 0/\Cb n vars 0<args.length then args[(Cb n vars 0).toNat]? else none
def A9z(vars:List A2)(args:List Ty)(t:Ty):t.subst vars args=match(if t.args=[]then Hu vars args t.name else none)with
  |some u=>.mk u.name u.args t.pos
  |none=>.mk t.name (t.args.map (Ty.subst vars args)) t.pos:=by rw[Uo];unfold Hu;grind
theorem T5{vars:List A2}{args:List Ty}{t u:Ty}(E:t.args=[])(h:Hu vars args t.name=some u):t.subst vars args=.mk u.name u.args t.pos:=by rw[A9z,A6 E,h]
theorem J8{vars:List A2}{args:List Ty}(h:t.args=[]->Hu vars args t.name=none):t.subst vars args=.mk t.name (t.args.map (Ty.subst vars args)) t.pos:=by rw[A9z];grind
variable {n:A2}
theorem Pr{vars:List A2}{args:List Ty}(h:n∉vars):Hu vars args n=none:=by unfold Hu;rcases A3b n vars 0 with⟨E,_⟩|⟨k,E,I⟩;grind;grind
theorem A3y{vars:List A2}{args:List Ty}(h:n∈vars)(O:vars.length<=args.length):∃(k:Nat)(u:Ty),Cb n vars 0=k/\vars[k]?=some n/\args[k]?=some u/\Hu vars args n=some u:=by
 unfold Hu;rcases A3b n vars 0 with⟨_,J⟩|⟨k,I,J⟩;grind
 .have L:=(Aw.1 I).1;have E:k<args.length:=by omega
  refine⟨k,args[k],by omega,I,Br E,?_⟩;grind
def B9y{vars:List A2}{args:List Ty}{u:Ty}(h:Hu vars args n=some u):n∈vars/\u∈args:=by
 have E:u∈args:=by unfold Hu at h;split at h;grind;cases h
 refine⟨Am6 λI=>?_,E⟩;grind[Pr]
theorem C3r(f:Ty->Ty)(vars:List A2)(args:List Ty)(n:A2):Hu vars (args.map f) n=(Hu vars args n).map f:=by grind[Hu]
theorem D4e(v:List A2)(a:List Ty)(u:Ty)(q:Int):(Ty.mk u.name u.args q).subst v a=.mk (u.subst v a).name (u.subst v a).args q:=by
 by_cases I:u.args=[]
 .cases E:Hu v a u.name with
  |some w=>rw[T5 (t:=.mk u.name u.args q) (u:=w) I E,T5 I E];rfl
  |none=>rw[J8 (t:=.mk u.name u.args q) λ_=>E,J8 λ_=>E];rfl
 rw[J8 (t:=.mk u.name u.args q) λh=>absurd h I,J8 (t:=u) λh=>absurd h I];rfl
def A8r(I:List A2)(L:List Ty)(J:List A2)(O:List Ty)(hl:I.length<=L.length)(t:Ty)(h:t.Lf λn=>n∈I\/n∉J):(t.subst I L).subst J O=t.subst I (L.map (Ty.subst J O)):=by
 induction t using Ty.induct with
 |h t W =>
 by_cases E:t.args=[]
 .by_cases U:t.name∈I
  .grind[A3y,T5,C3r,D4e]
  .have Z:t.name∉J:=(h.name E).resolve_left U;have e1:∀a,t.subst I a=t:=λa=>by
    rw[J8 λ_=>Pr U,E];cases t;simp only[Ty.args]at E;subst E;rfl
   grind[J8,Pr]
 .rw[J8 λh=>absurd h E,J8 (t:=t) λh=>absurd h E,J8 λh=>absurd h (by simpa [I8]using E)];simp only[I8,Ro,mkQ,Dw]
  congr 1
  exact Hb λu V=>W u V (h.arg u V)
def D6j{v:List A2}{a:List Ty}(h:t.Lf λn=>n∉v):t.subst v a=t:=by
 induction t using Ty.induct with
 |h t I =>
 rw[J8 λJ=>Pr (h.name J)];rw[Hb (g:=id) λu E=>I u E (h.arg u E)];cases t;simp[Ty.name,Ty.args,Ty.pos]
def G6a{L:List A2}{V:List Ty}{J:List A2}{I:List Ty}(hd:∀n,n∈L->n∉J)(hc:∀u,u∈I->u.Lf λn=>n∉L)(t:Ty):(t.subst L V).subst J I=(t.subst J I).subst L (V.map (Ty.subst J I)):=by
 induction t using Ty.induct with
 |h t ih =>
 by_cases E:t.args=[]
 .have Z:∀v a,Hu v a t.name=none->t.subst v a=t:=λv a hh=>by
   rw[J8 λ_=>hh,E];cases t;simp only[Ty.args]at E;subst E;rfl
  cases U:Hu L V t.name with
  |some u =>have W:=hd _ (B9y U).1;rw[Z J I (Pr W),T5 E U,T5 (u:=u.subst J I) E (by rw[C3r,U];rfl),D4e]
  |none =>
   rw[Z L V U];cases hw:Hu J I t.name with
   |some w =>have O:=hc w (B9y hw).2;rw[T5 E hw,D6j];exact .of (λh=>O.name h) λx hx=>O.arg x hx
   |none =>grind[C3r]
 .rw[J8 λh=>absurd h E,J8 (t:=t) λh=>absurd h E,J8 λh=>absurd h (by simpa [I8]using E),J8 λh=>absurd h (by simpa [I8]using E)];simp only[I8,Ro,mkQ,Dw];simp_all
def F2d{S T:A2->Prop}{v:List A2}{a:List Ty}(O:∀n,S n->Hu v a n=none->T n)(U:∀u,u∈a->u.Lf T){t:Ty}(h:t.Lf S):(t.subst v a).Lf T:=by
 induction t using Ty.induct with
 |h t V =>
 by_cases J:t.args=[]
 .cases E:Hu v a t.name with|some u =>rw[T5 J E];have:=U u (B9y E).2;exact .of (λI=>this.name I) λx L=>this.arg x L|none =>rw[J8 λ_=>E,J];exact .of (λ_=>O _ (h.name J) E) (by simp[I8])
 .rw[J8 λI=>absurd I J];refine .of (λI=>absurd I (by simpa [I8]using J)) λx L=>?_;simp only[I8,Au]at L;obtain⟨u,E,rfl⟩:=L;exact V u E (h.arg u E)
def D8h(n:A2):∀(v:List A2)(i:Nat),Cb n v i=if n∈v then Cb n v 0+i else -1:=by
 intro v
 induction v with
 |nil=>intro i;rfl
 |cons x v E =>intro i;rw[Cb,Cb];grind
def E8h{α:Type}(p:α->Bool)(x:α)(l:List α):Cw p (x::l)=if p x=true then 0 else if Cw p l = -1 then -1 else Cw p l+1:=by unfold Cw;grind
theorem A4g{α:Type}(g:α->A2)(nm:A2):∀l:List α,Cw (λf=>decide (g f=nm)) l=Cb nm (l.map g) 0
 |[]=>rfl
 |x::l=>by rw[E8h,A4g g nm l,Cp,Cb,D8h nm (l.map g) (0+1)];by_cases E:nm=g x;grind;rw[A3 E,A3 (by grind)];rcases A3b nm (l.map g) 0 with⟨J,I⟩|⟨k,J,I⟩;grind;grind
def B1a{E I:List A2}{O V:List Ty}(hl:E.length=O.length)(n:A2):Hu (E++I) (O++V) n=if n∈E then Hu E O n else Hu I V n:=by
 have L:∀(E:List A2) (i:Nat),Cb n (E++I) i=if n∈E then Cb n E i else Cb n I (i+E.length):=by
  intro E
  induction E with
  |nil=>simp
  |cons x E ih =>intro i;rw[Nj,Cb,Cb,ih];grind
 have U:=D8h n;unfold Hu;rw[L E 0];by_cases J:n∈E;rw[A6 J,A6 J];obtain⟨k,u,h1,Z,W,h4⟩:=A3y J (args:=O) (by omega);grind;rw[A3 J,A3 J,U I (0+E.length)];by_cases Z:n∈I;rw[A6 Z];rcases A3b n I 0 with⟨_,W⟩|⟨k,W,h4⟩;grind;grind;grind
def G6m{I O:List A2}{J V:List Ty}(W:I.length=J.length){t:Ty}(h:t.Lf λn=>n∈I\/n∉O):t.subst (I++O) (J++V)=t.subst I J:=by
 induction t using Ty.induct with
 |h t Z =>
 rw[A9z,A9z I J];by_cases E:t.args=[]
 .rw[A6 E,A6 E,B1a W,E];by_cases L:t.name∈I
  .grind
  .rw[A3 L,Pr L,Pr ((h.name E).resolve_left L)];rfl
 .rw[A3 E,A3 E];simp only;rw[Hb λu U=>Z u U (h.arg u U)]
def A4.Lf(S:A2->Prop)(s:A4):Prop:=(∀f,f∈s.A1->f.bound.Lf S)/\(∀f,f∈s.params->f.type.Lf S)/\s.result.Lf S
variable {s:A4}
def A4.Lf.mono{S T:A2->Prop}(h:s.Lf S)(hs:∀n,S n->T n):s.Lf T:=⟨λf E=>(h.1 f E).mono hs,λf E=>(h.2.1 f E).mono hs,h.2.2.mono hs⟩
def D1c(E:List A2)(O:List Ty)(J:List A2)(U:List Ty)(L:E.length<=O.length)(s:A4)(h:s.Lf λn=>n∈E\/n∉J):(s.subst E O).subst J U=s.subst E (O.map (Ty.subst J U)):=by simp only[A4.subst,Dw,A4.mk.injEq,Qo,T9];refine⟨Hb λf I=>?_,Hb λf I=>?_,A8r _ _ _ _ L _ h.2.2⟩;simp only[Function.comp,Ak.subst,A8r _ _ _ _ L _ (h.1 f I)];simp only[Function.comp,Param.subst,A8r _ _ _ _ L _ (h.2.1 f I)]
def P6(n:A2):Prop:=∃i,n=Dc i
theorem F7m(i:Nat){S:A2->Prop}(h:∀n,P6 n->S n):(V4 i).Lf S:=.of (λ_=>h _ ⟨i,rfl⟩) (by simp[V4,I8])
def G1e(n:Nat){S:A2->Prop}(h:∀n,P6 n->S n):∀u,u∈D7 n->u.Lf S:=λu E=>by grind[D7,F7m]
def D6g{S T:A2->Prop}(h:s.Lf λn=>n∈Ad s.A1\/S n)(hs:∀n,S n->T n)(U:∀n,P6 n->T n):s.canon.Lf T:=by
 have key:∀t:Ty,t.Lf (λn=>n∈Ad s.A1\/S n)->(t.subst (Ad s.A1) (D7 s.A1.length)).Lf T:=λt ht =>
  F2d (S:=λn=>n∈Ad s.A1\/S n) (λn V J=>V.elim (λL=>by obtain⟨_,_,_,_,_,O⟩:=A3y L (args:=D7 s.A1.length) (by simp[Ad,D7]);rw[O]at J;cases J) (hs n)) (G1e _ U) ht
 refine⟨λf E=>?_,λf E=>?_,key _ h.2.2⟩;simp only[A4.canon,H4]at E;obtain⟨i,I,rfl⟩:=List.mem_mapIdx.1 E;exact key _ (h.1 _ (Gi I));simp only[A4.canon,Hr]at E;obtain⟨i,I,rfl⟩:=List.mem_mapIdx.1 E;exact key _ (h.2.1 _ (Gi I))
structure A4.Cn(s:A4):Prop where
 fs:Ad s.A1=(List.range s.A1.length).map Dc
 ps:∀f,f∈s.params->f.name=[]
def A7m(s:A4):s.canon.Cn:=by refine⟨?_,λf I=>?_⟩;refine List.ext_getElem (by simp[Ad,A4.canon,H4]) λi E J=>?_;simp only[List.getElem_map,List.getElem_range];simp only[Ad,Bc]at E;simp only[Ad,List.getElem_map,A4.canon,H4,A4.A1,List.getElem_mapIdx];grind;simp only[A4.canon,Hr,A4.params]at I;grind
def A4.Cn.subst(h:s.Cn)(v:List A2)(a:List Ty):(s.subst v a).Cn:=by refine⟨?_,λf E=>?_⟩;simp only[A4.subst,Bc];rw[<-h.fs];simp only[Ad,Dw];rfl;simp only[A4.subst]at E;obtain⟨g,I,rfl⟩:=Au.1 E;exact h.ps g I
def C6q{n:Nat}(t:Ty):t.subst ((List.range n).map Dc) (D7 n)=t:=by
 induction t using Ty.induct with
 |h t U =>
 rw[A9z];cases E:(if t.args=[]then Hu ((List.range n).map Dc) (D7 n) t.name else none)with
 |none =>simp only;rw[Hb (g:=id) λu E=>U u E];cases t;simp[Ty.name,Ty.args,Ty.pos]
 |some u =>
  split at E
  .rename_i O;obtain⟨k,w,h1,L,I,W⟩:=A3y (B9y E).1 (args:=D7 n) (by simp[D7]);rw[W]at E;simp only[B0]at E;subst E;have J:k<n:=by have:=(Aw.1 I).1;simpa [D7]using this
   have Z:t.name=Dc k:=by rw[Db,Am0 J]at L;simpa using L.symm
   have V:w=V4 k:=by unfold D7 at I;rw[Db,Am0 J]at I;simpa using I.symm
   subst V;cases t;simp only[Ty.name,Ty.args,Ty.pos]at*;subst O;subst Z;rfl
  grind
theorem A4.Cn.canon(h:s.Cn):s.canon=s:=by
 cases s with|mk nm fs ps r q =>
 have J:=h.fs;have L:=h.ps;simp only[]at J L;simp only[A4.canon,A4.mk.injEq,Qo,T9,H4,Hr];rw[J];refine⟨?_,?_,C6q _⟩
 .refine Mm λi=>?_;rw[S5];cases h:fs[i]? with
  |none=>rfl
  |some f =>
   have E:=(Aw.1 h).1;have I:(Ad fs)[i]?=some f.name:=by unfold Ad;rw[Db,h];rfl
   rw[J,Db,Am0 E]at I;simp only[Ef,B0]at I;simp only[Ef,C6q,A6 E,I]
 .refine Mm λi=>?_;rw[S5];cases h:ps[i]? with
  |none=>rfl
  |some f =>have E:=(Aw.1 h).1;simp only[Ef,C6q,A6 E,<-L f (Bm h)]
def G2t{p:Prog}{x:Ty} :∀s,s∈H2 p x->s.Cn:=by intro s hs;unfold H2 at hs;by_cases E:Bb p x 2=true;rw[A6 E]at hs;unfold Wm Ic at hs;obtain⟨y,_,rfl⟩:=Au.1 hs;exact(A7m _).subst _ _;grind
def C0z{p:Prog}{env:List Ak}{x:Ty} :∀s,s∈Cv p env x->s.Cn:=by intro s hs;unfold Cv at hs;by_cases E:Bb p ((Ct env x).getD x) 2=true;rw[A6 E]at hs;exact G2t s hs;rw[A3 E]at hs;by_cases I:(Ct env x).isSome=true;grind;rw[A3 I]at hs;unfold Gw at hs;obtain⟨y,_,rfl⟩:=Au.1 hs;exact(A7m _).subst _ _
theorem C8r{u:Ty}{q:Int} :(Ty.mk u.name u.args q).er=u.er:=by rw[Ia,Ia u];rfl
def A9h{p:Prog}{env:List Ak}{x y:Ty}(h:Cg p env x y=true):∀w,w∈Cv p env y->∃s,s∈Cv p env x/\s.er=w.er:=by
 intro w E;unfold Cg at h;split at h;rw[E4,A6t]at h;obtain⟨s,hs,_,I⟩:=h w E;rw[(C0z s hs).canon,(C0z w E).canon]at I;grind
 .rw[Sw]at h;have:w.er∈(Cv p env x).map A4.er:=by rw[B8n h];exact Au.2 ⟨w,E,rfl⟩
  grind
def E2w{p:Prog}{env:List Ak}{x y:Ty}(J:isIface p env y=true)(h:∀w,w∈Cv p env y->∃s,s∈Cv p env x/\s.er=w.er):Cg p env x y=true:=by unfold Cg;rw[A6 J,E4,A6t];intro w I;obtain⟨s,hs,E⟩:=h w I;exact⟨s,hs,by have:=Gf A4.name E;simpa [A4.er]using this,by rw[B9s,B9s,E]⟩
theorem Rk{p:Prog}{env:List Ak}{x y:Ty}(h:x.er=y.er):Cg p env x y=true:=by
 by_cases E:isIface p env y=true
 .refine E2w E λw I=>?_;have:w.er∈(Cv p env x).map A4.er:=by rw[B8n h];exact Au.2 ⟨w,I,rfl⟩
  grind
 unfold Cg;rw[A3 E,Sw];exact h
theorem B2r{p:Prog}{env:List Ak}{x y I E:Ty}(J:x.er=I.er)(L:y.er=E.er)(h:Cg p env x y=true):Cg p env I E=true :=R9 (R9 (Rk J.symm) h) (Rk L)
end Go.Abs
/- a program whose heads are in order: what substitution of types keeps: fields, method sets, implementing, well-formedness -/
namespace Go.Abs
open Go Go.Proofs
structure PW(p:Prog):Prop where
 name:∀n,kindOf p n≠0->¬P6 n
 bnd:∀x d,Fk p x=some d->∀f,f∈d.A1->f.bound.Lf λn=>n∈Ad d.A1\/kindOf p n≠0
 fld:∀x d,Fk p x=some d->d.kind=1->∀f,f∈d.fields->f.type.Lf λn=>n∈Ad d.A1\/kindOf p n≠0
 W6:∀x d,Fk p x=some d->d.kind=2->∀s,s∈d.sigs->s.Lf λn=>n∈Ad s.A1\/(n∈Ad d.A1\/kindOf p n≠0)
 mth:∀d,d∈p.decls->d.kind=3->d.sig.Lf λn=>n∈Ad d.sig.A1\/(n∈d.vars\/kindOf p n≠0)
structure Sb(p:Prog)(env env':List Ak)(v:List A2)(a:List Ty):Prop where
 names:v=Ad env
 len:a.length=v.length
 fresh:∀n,n∈v->kindOf p n=0/\¬P6 n
 G3j:∀n,n∈Ad env'->kindOf p n=0
 clean:∀u,u∈a->u.Lf λn=>¬P6 n
 iface:∀f,f∈env->isIface p env f.bound=true
 bnd:∀(i:Nat) (f:Ak) (u:Ty),env[i]?=some f->a[i]?=some u->Cg p env' u (f.bound.subst v a)=true
def B1o{p:Prog}{env:List Ak}{t:Ty}(h:∀n,n∈Ad env->kindOf p n=0)(J:kindOf p t.name≠0):Ct env t=none:=by unfold Ct;rw[A6];unfold Fi;split;rcases Lo (λf:Ak=>decide (f.name=t.name)) env with⟨I,_⟩|⟨j,x,_,E,L⟩;omega;have:=h x.name (Au.2 ⟨x,Bm E,rfl⟩);grind;omega
def D3s{env:List Ak}{t b:Ty}(h:Ct env t=some b):∃(k:Nat)(f:Ak),env[k]?=some f/\b=f.bound/\t.args=[]/\Cb t.name (Ad env) 0=k/\f.name=t.name:=by unfold Ct at h;split at h;cases h;rename_i E;unfold Fi at h E;split at E;rename_i I;rw[A6 I]at h;grind[A4g,E1s,Ad];omega
def E7d{env:List Ak}{t:Ty}(h:Ct env t=none)(I:t.args=[]):t.name∉Ad env:=by
 intro U;unfold Ct Fi at h;have E:t.args.length=0:=by rw[I];rfl
 rw[A6 E,A4g]at h;rcases E1s env t.name with L|⟨k,f,O,V,J⟩;grind[A3b];unfold Ad at J;grind
theorem R3{p:Prog}{t:Ty}{k:Int}(h:Bb p t k=true):kindOf p t.name=k/\(Ey p t.name).length=t.args.length:=by grind[Bb]
def D5c{p:Prog}{t u:Ty}{k:Int}(h:Bb p t k=true)(E:u.name=t.name)(I:u.args.length=t.args.length):Bb p u k=true:=by grind[Bb]
section
variable {p:Prog} {env env':List Ak} {v:List A2} {a:List Ty}
def Sb.node(sb:Sb p env env' v a){t:Ty}(h:Ct env t=none):t.subst v a=.mk t.name (t.args.map (Ty.subst v a)) t.pos :=J8 λE=>Pr (by rw[sb.names];exact E7d h E)
def Sb.C9p(sb:Sb p env env' v a):∀n,n∈Ad env->kindOf p n=0:=λn E=>(sb.fresh n (by rw[sb.names];exact E)).1
def Sb.inst(sb:Sb p env env' v a){t:Ty}{k:Int}(L:k≠0)(h:Bb p t k=true):t.subst v a=.mk t.name (t.args.map (Ty.subst v a)) t.pos/\Bb p (t.subst v a) k=true/\Ct env t=none/\Ct env' (t.subst v a)=none:=by have J:=(R3 h).1;have I:=B1o (t:=t) sb.C9p (by omega);have E:=sb.node I;refine⟨E,?_,I,?_⟩;rw[E];exact D5c h rfl (by simp[I8]);rw[E];exact B1o sb.G3j (by rw[Ro,J];exact L)
def Sb.D1r(sb:Sb p env env' v a){t:Ty}(h:isIface p env t=true):isIface p env' (t.subst v a)=true:=by
 unfold isIface at h |-;rw[Bi]at h |-;obtain⟨_,I,_,E⟩:=sb.inst (by decide) h.1
 grind
def Sb.var(sb:Sb p env env' v a){t b:Ty}(h:Ct env t=some b):∃(k:Nat)(f:Ak)(u:Ty),env[k]?=some f/\b=f.bound/\t.args=[]/\a[k]?=some u/\t.subst v a=.mk u.name u.args t.pos:=by
 obtain⟨k,f,E,h2,W,U,J⟩:=D3s h;have L:t.name∈v:=by rw[sb.names,<-J];exact Au.2 ⟨f,Bm E,rfl⟩
 obtain⟨O,u,I,V,Z,g4⟩:=A3y L (args:=a) (by rw[sb.len];simp);have:O=k:=by rw[sb.names,U]at I;omega
 grind[T5]
def Sb.out(sb:Sb p env env' v a){n:A2}(h:P6 n\/kindOf p n≠0):n∉v:=λE=>by obtain⟨I,J⟩:=sb.fresh n E;grind
def C7y(O:PW p)(sb:Sb p env env' v a){t:Ty}(h:Bb p t 2=true):H2 p (t.subst v a)=(H2 p t).map (A4.subst v a):=by obtain⟨V,U,_,_⟩:=sb.inst (by decide) h;obtain⟨d,hd,I,E⟩:=N4 (by decide) h;unfold H2;rw[A6 U,A6 h,V,Ro,hd,Dh];unfold Wm Ic;rw[I8,Dw];refine Hb λs hs=>?_;have L:s.1∈d.sigs:=Mt (Vt (Kr.1 hs).1);simp only[Function.comp];refine(D1c _ _ _ _ (by rw[<-E];simp[Ad]) _ ?_).symm;refine D6g (O.W6 _ d hd I s.1 L) (λn J=>?_) λn J=>.inr (sb.out (.inl J));exact J.imp_right λh=>sb.out (.inr h)
theorem G7c(Z:PW p)(sb:Sb p env env' v a){t:Ty}(h:Bb p t 1=true)(j:Nat):Gw p (t.subst v a) j=(Gw p t j).map (A4.subst v a):=by
 obtain⟨O,hi,_,_⟩:=sb.inst (by decide) h;have V:J6 p (t.subst v a)=J6 p t:=by funext d i;unfold J6 J2;rw[hi,h,O,Ro,I8,Bc]
 unfold Gw;rw[V,Dw,O,I8];refine Hb λs hs=>?_;obtain⟨U,J⟩:=Kr.1 hs;have L:s.1∈p.decls:=Mt (Vt U);unfold J6 at J;simp only[Bi,E4]at J;obtain⟨⟨hk,E⟩,I⟩:=J;have W:s.1.vars.length=t.args.length:=by unfold J2 at I;rw[A6 h]at I;split at I;grind;omega
 simp only[Function.comp];refine(D1c _ _ _ _ (by omega) _ ?_).symm;refine D6g (Z.mth s.1 L hk) (λn E=>?_) λn E=>.inr (sb.out (.inl E));exact E.imp_right λh=>sb.out (.inr h)
def D4m(L:PW p)(sb:Sb p env env' v a){t:Ty}(h:Bb p t 1=true):Bo p (t.subst v a)=(Bo p t).map (Param.subst v a):=by obtain⟨O,U,_,_⟩:=sb.inst (by decide) h;obtain⟨d,hd,I,E⟩:=N4 (by decide) h;unfold Bo;rw[A6 U,A6 h,O,Ro,hd,Dh];unfold fieldsD;rw[I8,Dw];refine Hb λf J=>?_;simp only[Function.comp,Param.subst,Param.mk.injEq,Qo,T9];refine(A8r _ _ _ _ (by rw[<-E];simp[Ad]) _ ?_).symm;exact(L.fld _ d hd I f J).mono λn V=>V.imp_right λh=>sb.out (.inr h)
theorem B1x{p:Prog}{env:List Ak}{t:Ty}(h:isIface p env t=true):Cv p env t=H2 p t:=by unfold isIface at h;rw[Bi]at h;unfold Cv;simp_all
theorem C5j{p:Prog}{env:List Ak}{x y:Ty}(h:x.er=y.er){s:A4}(hs:s∈Cv p env x):∃E,E∈Cv p env y/\E.er=s.er:=by
 have:s.er∈(Cv p env y).map A4.er:=by rw[<-B8n h];exact Au.2 ⟨s,hs,rfl⟩
 grind
theorem E4d(W:PW p)(sb:Sb p env env' v a){t:Ty}{s:A4}(hs:s∈Cv p env t):∃Z,Z∈Cv p env' (t.subst v a)/\Z.er=(s.subst v a).er:=by
 cases L:Ct env t with
 |some b =>
  obtain⟨k,f,u,I,rfl,h3,h4,h5⟩:=sb.var L;have V:=sb.iface f (Bm I);have a2:=sb.D1r V;have E:=V;unfold isIface at E;rw[Bi]at E;have a3:s∈H2 p f.bound:=by unfold Cv at hs;rw[L,Dh,A6 E.1]at hs;exact hs
  have a0:=C7y W sb E.1;obtain⟨w,hw,a1⟩:=A9h (sb.bnd k f u I h4) (s.subst v a) (by grind[B1x]);grind[C5j,C8r]
 |none =>
  have key:∀k,k≠0->Bb p t k=true->Ct env' (t.subst v a)=none:=λk hk h=>(sb.inst hk h).2.2.2;unfold Cv at hs;rw[L]at hs;simp only[Rv,Nb,I5,Fm]at hs;split at hs;rename_i J;have O:=key 2 (by decide) J;refine⟨s.subst v a,?_,rfl⟩;unfold Cv;rw[O,Rv,A6 (sb.inst (by decide) J).2.1,C7y W sb J];grind
  .rename_i J;by_cases I:Bb p t 1=true
   .have O:=key 1 (by decide) I;refine⟨s.subst v a,?_,rfl⟩;have V:=(sb.inst (by decide) I).2.1;have U:¬Bb p (t.subst v a) 2=true:=λh=>by have:=(R3 h).1;grind[R3]
    unfold Cv;rw[O,Rv,A3 U];simp only[Nb,I5,Fm];grind[G7c]
   grind[D6e]
def B4h(O:PW p)(sb:Sb p env env' v a){t u:Ty}(h:Cg p env t u=true):Cg p env' (t.subst v a) (u.subst v a)=true:=by by_cases J:isIface p env u=true;have I:=sb.D1r J;refine E2w I λw L=>?_;have E:=J;unfold isIface at E;rw[Bi]at E;rw[B1x I,C7y O sb E.1]at L;obtain⟨w0,U,rfl⟩:=Au.1 L;obtain⟨s,hs,V⟩:=A9h h w0 (by rw[B1x J];omega);grind[E4d,C6t];unfold Cg at h;rw[A3 J,Sw]at h;grind[Rk,Hq]
end
def Wp{p:Prog}{env fs:List Ak}{args:List Ty}:Hi p env fs args<0↔∀(i:Nat)(f:Ak)(u:Ty),fs[i]?=some f->args[i]?=some u->Cg p env u (f.bound.subst (Ad fs) args)=true:=by unfold Hi;constructor;intro h i f u J L;rcases Lo (A5f p env fs args) (fs.zip args)with⟨_,E⟩|⟨j,z,I,_⟩;have:=E (f,u) (Bm (by grind:(fs.zip args)[i]?=some (f,u)));grind[A5f];omega;grind[Tb,List.getElem?_of_mem,List.getElem?_zip_eq_some,A5f]
def C6g{p:Prog}{env:List Ak}:∀{l:List Ty},P3 p env l=none↔∀t,t∈l->Bx p env t=none
 |[]=>by simp[P3]
 |t::l=>by
  rw[P3];cases h:Bx p env t with
  |some q=>simp[h]
  |none=>simp only[C6g (l:=l),B5,forall_eq_or_imp,h,Qo]
theorem B0d{p:Prog}{env:List Ak}{t:Ty}:Bx p env t=none↔(Ct env t).isSome=true\/(kindOf p t.name≠0/\(Ey p t.name).length=t.args.length/\(∀u,u∈t.args->Bx p env u=none)/\Hi p env (Ey p t.name) t.args<0):=by rw[D4h];by_cases I:(Ct env t).isSome=true;grind;rw[A3 I];by_cases E:kindOf p t.name=0\/(Ey p t.name).length≠t.args.length;grind;rw[A3 E];obtain⟨J,L⟩:=Ye.1 E;rw[<-C6g];grind
def A0y{p:Prog}{env:List Ak}{t:Ty}(h:Bx p env t=none):t.Lf λn=>n∈Ad env\/kindOf p n≠0:=by induction t using Ty.induct with|_ t V=>?_;rcases B0d.1 h with E|⟨J,_,O,_⟩;obtain⟨b,E⟩:=Vq.1 E;obtain⟨k,f,L,_,W,_,U⟩:=D3s E;exact .of (λ_=>.inl (by rw[<-U];exact Au.2 ⟨f,Bm L,rfl⟩)) (by grind);exact .of (λ_=>.inr J) λu I=>V u I (O u I)
theorem C1y{p:Prog}{env:List Ak}{t:Ty}:∀{u:Ty},t.er=u.er->Bx p env t=none->Bx p env u=none:=by
 induction t using Ty.induct with|_ t ih=>?_;intro u W h;obtain⟨e1,V,O⟩:=A5o W;rw[B0d]at h |-;rw[<-B8o W];refine h.imp_right λ⟨h1,h2,h3,U⟩=>⟨by grind,by grind,λw I=>?_,?_⟩
 .obtain⟨i,Z⟩:=Pu I;have E:i<t.args.length:=by rw[O];exact(Aw.1 Z).1
  have J:t.args[i]?=some t.args[i]:=Br E;have:(t.args.map Ty.er)[i]?=(u.args.map Ty.er)[i]?:=by rw[V]
  grind
 .rw[Wp]at U |-;intro i f w L I;rw[<-e1]at L;have E:i<t.args.length:=by rw[O];exact(Aw.1 I).1
  have J:t.args[i]?=some t.args[i]:=Br E;have:(t.args.map Ty.er)[i]?=(u.args.map Ty.er)[i]?:=by rw[V]
  rw[Db,Db,J,I]at this;have h5:=U i f _ L J;grind[B2r,Hq]
section
variable {p:Prog} {env env':List Ak} {v:List A2} {a:List Ty}
def A7n{p:Prog}{n:A2}(h:kindOf p n≠0):∃d,Fk p n=some d/\d.kind=kindOf p n/\Ey p n=d.A1:=by grind[kindOf,Ey,Fk]
theorem A0s(U:PW p)(sb:Sb p env env' v a)(ha:∀u,u∈a->Bx p env' u=none){t:Ty}(h:Bx p env t=none):Bx p env' (t.subst v a)=none:=by
 induction t using Ty.induct with|_ t ih=>?_;rcases B0d.1 h with E|⟨I,h2,h3,V⟩;obtain⟨b,E⟩:=Vq.1 E;obtain⟨k,f,u,g1,_,g3,g4,g5⟩:=sb.var E;grind[C1y,C8r]
 .have E:=B1o (t:=t) sb.C9p I;have Z:=sb.node E;rw[Z,B0d];refine .inr ⟨I,by grind[I8,Ro],λw O=>?_,?_⟩;grind[I8]
  .rw[Wp]at V |-;rw[I8,Ro];intro i f w J O;rw[Db,P1]at O;obtain⟨u,hu,rfl⟩:=O;have:=B4h U sb (V i f u J hu);obtain⟨d,hd,_,L⟩:=A7n I;rw[A8r]at this
   omega;rw[<-h2];simp[Ad];rw[L]at J |-;exact(U.bnd _ d hd f (Bm J)).mono λn W=>W.imp_right λh=>sb.out (.inr h)
end
end Go.Abs
/- typing: inversion; what a substitution of types and of values keeps -/
namespace Go.Abs
open Go Go.Proofs
theorem B0x{c:D8}{x:Ty}:Lz c x=true↔Bb c.p x 1=true/\Ct c.env x=none:=by
 unfold Lz;have:(Ct c.env x=none)↔Fi c.env x<0:=by unfold Ct;constructor;intro h;refine Am6 λE=>?_;rw[A3 E]at h;grind[A7k];grind
 grind
def V8(c:D8)(E:List Ty)(es:List Ex):Prop:=E.length=es.length/\∀(i:Nat)(w:Ty)(k:Ex),E[i]?=some w->es[i]?=some k->∃K,D6 c k=(K,none)/\Cg c.p c.env K w=true
def B1f{c:D8}:∀(I:List Ty)(es:List Ex),I.length=es.length->(Ur c I es (es.map (D6 c))=none↔∀(i:Nat)(w:Ty)(k:Ex),I[i]?=some w->es[i]?=some k->∃K,D6 c k=(K,none)/\Cg c.p c.env K w=true)
 |[],[],_=>by simp[Ur]
 |[],_::_,h=>by grind
 |_::_,[],h=>by grind
 |w::I,e::es,h=>by
  have O:=B1f (c:=c) I es (by grind);rw[Cp,Ur];have J:B6s c w e (D6 c e)=none↔∃K,D6 c e=(K,none)/\Cg c.p c.env K w=true:=by
   unfold B6s;obtain⟨t,o⟩:=D6 c e;cases o with
   |some q=>simp
   |none =>simp
  constructor;grind;intro E;rw[J.2 (E 0 w e rfl rfl)];exact O.2 λi w' L U V=>E (i+1) w' L (by grind) (by grind)
def C0g{o:Option Int}{t u:Ty}:orI o t=(u,none)↔o=none/\u=t:=by
 unfold orI;cases o with
 |some q=>simp[L9]
 |none=>grind
theorem A1i{n:Int}{t:Ty}:L9 n=(t,none)↔False:=by simp[L9]
theorem A0t{c:D8}{e:Ex}{x:Ty}{s:A4}:Qz c e x=.inr s↔s∈Cv c.p c.env x/\s.name=e.name/\s.A1.length=e.targs.length/\(∀t,t∈e.targs->Bx c.p c.env t=none)/\Hi c.p c.env s.A1 e.targs<0/\e.kids.length=s.params.length+1:=by
 have I:∀E:A4,(if F5 (Cd c.p c.env x) e.name<0\/E.A1.length≠e.targs.length then(.inl e.pos:Int ⊕ A4)else
  match P3 c.p c.env e.targs with
  |some q=>.inl q
  |none=>if 0<=Hi c.p c.env E.A1 e.targs then .inl ((e.targs[(Hi c.p c.env E.A1 e.targs).toNat]?).getD default).pos else
   if e.kids.length≠E.params.length+1 then .inl e.pos else .inr E)=.inr s↔0<=F5 (Cd c.p c.env x) e.name/\E=s/\s.A1.length=e.targs.length/\(∀t,t∈e.targs->Bx c.p c.env t=none)/\Hi c.p c.env s.A1 e.targs<0/\e.kids.length=s.params.length+1:=by
  intro E;rw[<-C6g];by_cases J:F5 (Cd c.p c.env x) e.name<0\/E.A1.length≠e.targs.length
  .grind
  rw[A3 J];obtain⟨O,L⟩:=Ye.1 J;have L:=Am6 L;cases hL:P3 c.p c.env e.targs with
  |some q=>simp
  |none =>grind
 unfold Qz;rcases Lo (λs:A4=>decide (s.name=e.name)) (Cd c.p c.env x)with⟨J,O⟩|⟨j,y,J,O,L⟩;grind[F5,Pd]
 .have V:F5 (Cd c.p c.env x) e.name=j:=J;rw[V,Hx,O];simp only;rw[<-V];refine(I y).trans ?_;have hy:=Bm O;have U:y.name=e.name:=by simpa using L
  constructor;grind[Pd];rintro⟨Z,W,g⟩;exact⟨by omega,A3e (C0m _ _ _) hy (Pd.2 Z) (U.trans W.symm),g⟩
def D4c{α:Type}(l:List Param)(nm:A2)(F:Param->α)(d:α)(y:α)(hd:y≠d) :((match l[(I2 l nm).toNat]? with|some f=>if I2 l nm<0 then d else F f|none=>d)=y)↔∃(k:Nat) (f:Param),I2 l nm=k/\l[k]?=some f/\F f=y:=by grind
theorem Jr{c:D8}{e:Ex}{t:Ty}:D6 c e=(t,none) ↔
  (e.kind=1/\∃(k:Nat) (f:Param),I2 c.vars e.name=k/\c.vars[k]?=some f/\t=f.type) \/
  (e.kind=3/\Bx c.p c.env e.type=none/\Lz c e.type=true/\V8 c ((Bo c.p e.type).map (·.type)) e.kids/\t=e.type) \/
  ∃(v:Ex) (vs:List Ex) (x:Ty),e.kids=v::vs/\D6 c v=(x,none) /\ ((e.kind=2/\∃s,Qz c e x=.inr s/\V8 c (T7 s e.targs) vs/\t=s.result.subst (Ad s.A1) e.targs) \/ (e.kind=4/\Lz c x=true/\∃(k:Nat) (f:Param),I2 (Bo c.p x) e.name=k/\(Bo c.p x)[k]?=some f/\t=f.type) \/ (e.kind=5/\Bx c.p c.env e.type=none/\(c.strict=true->U1 c x e.type=true)/\t=e.type)):=by
 rw[D1e];unfold B5s;by_cases k1:e.kind=1
 .rw[A6 k1];unfold C8i;refine(D4c c.vars e.name (λf=>(f.type,(none:Option Int))) (L9 e.pos) (t,none) (by simp[L9])).trans ?_
  grind
 rw[A3 k1];by_cases k3:e.kind=3
 .rw[A6 k3];unfold C8o;constructor
  .intro h;split at h
   .exact(A1i.1 h).elim
   .rename_i W;split at h
    .exact(A1i.1 h).elim
    .rename_i hs;obtain⟨J,V⟩:=C0g.1 h;have Z:Lz c e.type=true:=by cases hh:Lz c e.type with|true=>rfl|false=>grind
     have hl:(Bo c.p e.type).length=e.kids.length:=Am6 λhh=>hs (.inr hh);exact .inr (.inl ⟨k3,W,Z,⟨by grind,(B1f _ _ (by grind)).1 J⟩,V⟩)
  .rintro(⟨h,_⟩|⟨_,W,hs,I,rfl⟩|⟨_,_,_,_,_,h|h|h⟩)
   .omega
   .rw[W];simp only;have hl:(Bo c.p e.type).length=e.kids.length:=by simpa using I.1
    rw[A3 (by grind)];exact C0g.2 ⟨(B1f _ _ I.1).2 I.2,rfl⟩
   all_goals omega
 rw[A3 k3];by_cases k2:e.kind≠2/\e.kind≠4/\e.kind≠5
 .rw[A6 k2]
  grind[A1i]
 rw[A3 k2];cases E:e.kids with
 |nil =>grind[A1i]
 |cons v vs =>
  simp only[Cp];have O:∀Q:Prop,((e.kind=1/\Q)\/(e.kind=3/\Bx c.p c.env e.type=none/\Lz c e.type=true/\V8 c ((Bo c.p e.type).map (·.type)) (v::vs)/\t=e.type)\/∃(v':Ex) (U:List Ex) (x:Ty),v::vs=v'::U/\D6 c v'=(x,none) /\ ((e.kind=2/\∃s,Qz c e x=.inr s/\V8 c (T7 s e.targs) U/\t=s.result.subst (Ad s.A1) e.targs) \/ (e.kind=4/\Lz c x=true/\∃(k:Nat) (f:Param),I2 (Bo c.p x) e.name=k/\(Bo c.p x)[k]?=some f/\t=f.type) \/ (e.kind=5/\Bx c.p c.env e.type=none/\(c.strict=true->U1 c x e.type=true)/\t=e.type)))↔∃x,D6 c v=(x,none) /\((e.kind=2/\∃s,Qz c e x=.inr s/\V8 c (T7 s e.targs) vs/\t=s.result.subst (Ad s.A1) e.targs) \/ (e.kind=4/\Lz c x=true/\∃(k:Nat) (f:Param),I2 (Bo c.p x) e.name=k/\(Bo c.p x)[k]?=some f/\t=f.type) \/ (e.kind=5/\Bx c.p c.env e.type=none/\(c.strict=true->U1 c x e.type=true)/\t=e.type)):=by
   intro Q;constructor
   .grind
   .grind
  rw[O];rcases hv:D6 c v with⟨x,o⟩
  cases o with
  |some q =>simp only[A1i,false_iff];simp
  |none =>
   simp only;have hx:∀R:Ty->Prop,(∃y,(x,(none:Option Int))=(y,none)/\R y)↔R x:=λR=>⟨λ⟨y,h,r⟩=>by cases h;exact r,λr=>⟨x,rfl,r⟩⟩;rw[hx];by_cases e2:e.kind=2
   .rw[A6 e2];unfold C6k;constructor
    .intro h;split at h;exact(A1i.1 h).elim
     .rename_i s hs;obtain⟨J,V⟩:=C0g.1 h;have hl:=(A0t.1 hs).2.2.2.2.2;rw[E,Ar]at hl;rw[E]at J;have L:(T7 s e.targs).length=vs.length:=by unfold T7;rw[Bc];omega
      exact .inl ⟨e2,s,hs,⟨L,(B1f _ _ L).1 J⟩,V⟩
    .rintro(⟨_,s,hs,I,rfl⟩|⟨h,_⟩|⟨h,_⟩);rw[hs];simp only;rw[E];exact C0g.2 ⟨(B1f _ _ I.1).2 I.2,rfl⟩;all_goals omega
   rw[A3 e2];by_cases e4:e.kind=4;rw[A6 e4];unfold C8d;constructor;intro h;split at h;exact(A1i.1 h).elim;rename_i hs;obtain⟨k,f,J,V,h3⟩:=(D4c (Bo c.p x) e.name (λf=>(f.type,(none:Option Int))) (L9 e.pos) (t,none) (by simp[L9])).1 h;grind;grind;rw[A3 e4];unfold C5z;constructor;grind[A1i];grind
def C4q{p:Prog}{x y:Ty}(h:x.er=y.er):(Bo p x).map Param.er=(Bo p y).map Param.er:=by grind[A5o,Bo,A2n,fieldsD,List.map_congr_left,D1i]
def Zo{α β:Type}{f:α->β}{l m:List α}(h:l.map f=m.map f){i:Nat}{x:α}(E:l[i]?=some x):∃y,m[i]?=some y/\f y=f x:=by
 have:(l.map f)[i]?=(m.map f)[i]?:=by rw[h]
 grind
def A2f{s E:A4}(h:E.er=s.er):E.name=s.name/\E.A1.map Ak.er=s.A1.map Ak.er/\E.params.map Param.er=s.params.map Param.er/\E.result.er=s.result.er:=by grind[A4.er]
def G8g{p:Prog}{env:List Ak}{x y:Ty}(J:Bb p y 1=true)(h:Cg p env x y=true):x.er=y.er:=by
 have I:¬isIface p env y=true:=λE=>by unfold isIface at E;rw[Bi]at E;have:=(R3 E.1).1;grind[R3]
 unfold Cg at h;rw[A3 I,Sw]at h;exact h
section
variable {p:Prog} {env env':List Ak} {v:List A2} {a:List Ty}
def C6i(hp:PW p)(sb:Sb p env env' v a)(ha:∀u,u∈a->Bx p env' u=none){st:Bool}{vars vars':List Param}{e e':Ex}{t:Ty}
  (hk:e'.kind=e.kind)(Z:e'.name=e.name)(ht:e'.type=e.type.subst v a)(hg:e'.targs=e.targs.map (Ty.subst v a))(hl:e'.kids.length=e.kids.length)(h1:e.kind≠1)
  (h:D6 ⟨p,st,env,vars⟩ e=(t,none))
  (ih:∀(i:Nat) (k k':Ex) (K:Ty),e.kids[i]?=some k->e'.kids[i]?=some k'->D6 ⟨p,st,env,vars⟩ k=(K,none)->∃K',D6 ⟨p,false,env',vars'⟩ k'=(K',none)/\Cg p env' K' (K.subst v a)=true) :
  ∃t',D6 ⟨p,false,env',vars'⟩ e'=(t',none)/\Cg p env' t' (t.subst v a)=true:=by
 have kids:∀(V E:List Ty) (es O:List Ex) (off:Nat),V8 ⟨p,st,env,vars⟩ V es->es.length=O.length->E.length=V.length ->(∀(i:Nat) (k:Ex),es[i]?=some k->e.kids[i+off]?=some k)->(∀(i:Nat) (k:Ex),O[i]?=some k->e'.kids[i+off]?=some k) ->(∀(i:Nat) (w w':Ty),V[i]?=some w->E[i]?=some w'->w'.er=(w.subst v a).er)->V8 ⟨p,false,env',vars'⟩ E O:=by
  intro V E es O off hK am W h1 h2 h3;refine⟨by rw[W,hK.1,am],λi w' k' I L=>?_⟩;have hi:i<V.length:=by rw[<-W];exact(Aw.1 I).1
  have hw:V[i]?=some V[i]:=Br hi;have ab:i<es.length:=by rw[<-hK.1];exact hi
  have a5:es[i]?=some es[i]:=Br ab;obtain⟨K,c1,c2⟩:=hK.2 i _ _ hw a5;obtain⟨K',d1,d2⟩:=ih (i+off) _ k' K (h1 i _ a5) (h2 i k' L) c1;exact⟨K',d1,R9 d2 (R9 (B4h hp sb c2) (Rk (h3 i _ w' hw I).symm))⟩
 rcases Jr.1 h with⟨h,_⟩|⟨k3,hc,hs,hK,rfl⟩|⟨w,V,x,a9,hx,a1⟩;omega;obtain⟨i1,i2⟩:=B0x.1 hs;obtain⟨_,j2,_,j4⟩:=sb.inst (by decide) i1;have hf:=D4m hp sb i1;refine⟨e'.type,Jr.2 (.inr (.inl ⟨by omega,?_,?_,?_,rfl⟩)),?_⟩;grind[A0s];grind[B0x];refine kids _ _ _ _ 0 hK hl.symm ?_ (λi k h=>h) (λi k h=>h) ?_;grind;intro i y y' I L;rw[ht]at L;have L:((Bo p (e.type.subst v a)).map (·.type))[i]?=some y':=L;have I:((Bo p e.type).map (·.type))[i]?=some y:=I;rw[hf,Dw,Db,P1]at L;rw[Db,P1]at I;obtain⟨f,f1,rfl⟩:=I;obtain⟨f',f2,rfl⟩:=L;rw[f1]at f2;cases f2;rfl;grind[B7e]
 .have ap:0<e'.kids.length:=by rw[hl,a9];simp
  cases J:e'.kids with
  |nil=>grind
  |cons w' E =>
   have W:E.length=V.length:=by rw[a9,J]at hl;simpa using hl
   obtain⟨x',a3,a6⟩:=ih 0 w w' x (by grind) (by grind) hx;rcases a1 with⟨k2,s,hs,hK,rfl⟩|⟨k4,hs,k,f,U,a2,rfl⟩|⟨k5,hc,_,rfl⟩
   .obtain⟨s1,s2,s3,s4,s5,s6⟩:=A0t.1 hs;simp only at s1 s2 s3 s4 s5 s6;obtain⟨r1,ad,ai⟩:=E4d hp sb s1;obtain⟨s',a',aa⟩:=A9h a6 r1 ad;obtain⟨q1,q2,q3,q4⟩:=A2f (aa.trans ai);have ag:=(C0z s s1).fs;have a0:∀n,n∈Ad s.A1->P6 n:=λn Z=>by rw[ag]at Z;obtain⟨i,_,rfl⟩:=Au.1 Z;exact⟨i,rfl⟩
    have aj:Ad s'.A1=Ad s.A1:=by rw[<-Yk s'.A1,q2,Yk];simp only[A4.subst,Ad,Dw];rfl
    have a4:∀(b b':Ty),b'.er=(b.subst v a).er->(b'.subst (Ad s'.A1) e'.targs).er=((b.subst (Ad s.A1) e.targs).subst v a).er:=by intro b b' hb;rw[G6a (λn Z=>sb.out (.inl (a0 n Z))) (λu hu=>(sb.clean u hu).mono λn Z hm=>Z (a0 n hm)),Hq,Hq,hb,aj,hg]
    have ao:s'.A1.length=s.A1.length:=by have:=Gf List.length q2;simpa [A4.subst]using this
    have ah:s'.params.length=s.params.length:=by have:=Gf List.length q3;simpa [A4.subst]using this
    have a7:Qz ⟨p,false,env',vars'⟩ e' x'=.inr s':=by rw[A0t];simp only;refine⟨a',by rw[q1,Z];exact s2,by grind,λu hu=>?_,?_,by omega⟩;rw[hg]at hu;obtain⟨u0,ak,rfl⟩:=Au.1 hu;exact A0s hp sb ha (s4 u0 ak);rw[Wp]at s5 |-;intro i f' u' f1 f2;obtain⟨g,I,L⟩:=Zo q2 f1;simp only[A4.subst]at I;rw[Db,P1]at I;obtain⟨f,f3,rfl⟩:=I;rw[hg,Db,P1]at f2;obtain⟨u,f4,rfl⟩:=f2;have hb:=Gf Ak.bound L;exact R9 (B4h hp sb (s5 i f u f3 f4)) (Rk (a4 f.bound f'.bound hb.symm).symm)
    refine⟨_,Jr.2 (.inr (.inr ⟨w',E,x',J,a3,.inl ⟨by omega,s',a7,?_,rfl⟩⟩)),?_⟩;refine kids _ _ _ _ 1 hK W.symm (by simp[T7,ah]) (λi k h=>by grind) (λi k h=>by grind) ?_;intro i y y' I L;unfold T7 at I L;rw[Db,P1]at I L;obtain⟨f,f1,rfl⟩:=I;obtain⟨f',f2,rfl⟩:=L;obtain⟨g,h1,h2⟩:=Zo q3 f2;simp only[A4.subst]at h1;rw[Db,f1]at h1;simp only[Ef,B0]at h1;subst h1;exact a4 _ _ (Gf Param.type h2).symm;exact Rk (a4 _ _ q4)
   .obtain⟨i1,i2⟩:=B0x.1 hs;obtain⟨_,j2,_,j4⟩:=sb.inst (by decide) i1;have ae:=G8g j2 a6;have a8:(Bo p x').map Param.er=((Bo p x).map (Param.subst v a)).map Param.er:=by rw[<-D4m hp sb i1];exact C4q ae
    have af:(Bo p x').map (·.name)=(Bo p x).map (·.name):=by have:=Gf (List.map Param.name) a8;simp only[Dw]at this;exact this
    have ac:(((Bo p x).map (Param.subst v a)))[k]?=some (f.subst v a):=by have a2:(Bo p x)[k]?=some f:=a2;rw[Db,a2];rfl
    obtain⟨f',f1,f2⟩:=Zo a8.symm ac;refine⟨f'.type,Jr.2 (.inr (.inr ⟨w',E,x',J,a3,.inr (.inl ⟨by omega,?_,k,f',?_,f1,rfl⟩)⟩)),?_⟩;grind[B0x,A2n,B8o];have U:I2 (Bo p x) e.name=k:=U;show I2 (Bo p x') e'.name=k;unfold I2 at U |-;rw[A4g,af,Z,<-A4g,U]
    exact Rk (Gf Param.type f2)
   refine⟨e'.type,Jr.2 (.inr (.inr ⟨w',E,x',J,a3,.inr (.inr ⟨by omega,?_,(λh=>by cases h),rfl⟩)⟩)),?_⟩;grind[A0s];grind[B7e]
def N2(v:List A2)(a:List Ty)(e:Ex):e.subst v a=.mk e.kind e.name (e.type.subst v a) (e.targs.map (Ty.subst v a)) (e.kids.map (Ex.subst v a)) e.pos:=by unfold Ex.subst;rw[A0d];rfl
def A6u(names:List A2)(vals:List Ex)(e:Ex):e.Eo names vals=R6 names vals (e.Hz (e.kids.map (Ex.Eo names vals))):=by unfold Ex.Eo;rw[A0d]
def D9y(hp:PW p)(sb:Sb p env env' v a)(ha:∀u,u∈a->Bx p env' u=none){st:Bool}{vars vars':List Param}{vals:List Ex}(Z:vals.length=vars.length)
  (J:∀(i:Nat) (f:Param) (u:Ex),vars[i]?=some f->vals[i]?=some u->∃K,D6 ⟨p,false,env',vars'⟩ u=(K,none)/\Cg p env' K (f.type.subst v a)=true) :
  ∀(e:Ex) (t:Ty),D6 ⟨p,st,env,vars⟩ e=(t,none)->∃U,D6 ⟨p,false,env',vars'⟩ ((e.subst v a).Eo (vars.map (·.name)) vals)=(U,none)/\Cg p env' U (t.subst v a)=true:=by
 intro e;induction e using Ex.induct with|_ e ih=>?_;intro t h;by_cases k1:e.kind=1
 .rcases Jr.1 h with⟨_,k,f,L,I,rfl⟩|⟨h3,_⟩|⟨_,_,_,_,_,h3|h3|h3⟩
  .simp only at L I;have hk:k<vars.length:=(Aw.1 I).1;have V:vals[k]?=some vals[k]:=Br (by omega);obtain⟨K,g1,W⟩:=J k f _ I V;refine⟨K,?_,W⟩;have O:Cb e.name (vars.map (·.name)) 0=k:=by rw[<-A4g];exact L
   have E:(e.subst v a).Eo (vars.map (·.name)) vals=vals[k]:=by rw[A6u,N2];unfold R6;refine(A6 (show e.kind=1/\0<=Cb e.name (vars.map (·.name)) 0/\Cb e.name (vars.map (·.name)) 0<vals.length from⟨k1,by omega,by omega⟩)).trans ?_;show(vals[(Cb e.name (vars.map (·.name)) 0).toNat]?).getD _=_;rw[O,Hx,V];rfl
   grind
  all_goals omega
 .have E:(e.subst v a).Eo (vars.map (·.name)) vals=.mk e.kind e.name (e.type.subst v a) (e.targs.map (Ty.subst v a)) (e.kids.map λk=>(k.subst v a).Eo (vars.map (·.name)) vals) e.pos:=by rw[A6u,N2];unfold R6;refine(A3 (show ¬(e.kind=1/\0<=Cb e.name (vars.map (·.name)) 0/\Cb e.name (vars.map (·.name)) 0<vals.length) from λhh=>k1 hh.1)).trans ?_;show Ex.mk e.kind e.name (e.type.subst v a) (e.targs.map (Ty.subst v a)) ((e.kids.map (Ex.subst v a)).map (Ex.Eo (vars.map (·.name)) vals)) e.pos=_;rw[Dw];rfl
  rw[E];refine C6i hp sb ha (vars:=vars) (e:=e) rfl rfl rfl rfl (by simp[Ex.kids]) k1 h ?_;intro i k k' K L I h3;have I:(e.kids.map λk=>(k.subst v a).Eo (vars.map (·.name)) vals)[i]?=some k':=I;grind
end
end Go.Abs
/- a step keeps the type of an expression, or makes it smaller -/
namespace Go.Abs
open Go Go.Proofs
theorem G2q(u:Nat):(Lib.decDigits u).foldl (λa b=>10*a+(b.toNat - 48)) 0=u:=by induction u using Nat.strongRecOn with|_ u E=>?_;grind[Lib.decDigits,UInt8.toNat_ofNat']
theorem F3n{i j:Nat}(h:Dc i=Dc j):i=j:=by unfold Dc Lib.itoa at h;simp only[An7,Qo]at h;rw[A3 (by omega),A3 (by omega)]at h;have:=Gf (List.foldl (λa b=>10*a+(b.toNat - 48)) 0) h;grind[G2q]
def G7q{n k:Nat}(h:k<n):Cb (Dc k) ((List.range n).map Dc) 0=k:=by grind[A3b,F3n]
theorem A9k{n:A2}(h:isName n=true):¬P6 n:=by
 rintro⟨i,rfl⟩;have E:cls (UInt8.toNat 36)≠1:=by decide
 unfold Dc isName at h;grind
def D4d{p:Prog}:∀{l pre:List Ak},A2a p pre l=none->∀(i:Nat)(f:Ak),l[i]?=some f->kindOf p f.name=0/\f.name∉Ad pre/\f.name∉Ad (l.take i)
 |[],_,_=>by simp
 |x::l,pre,h=>by
  intro i f I;rw[A2a]at h;split at h;cases h
  .rename_i U;obtain⟨J,V⟩:=Ye.1 U;cases i with
   |zero=>simp at I;subst I;exact⟨Am6 J,V,by simp[Ad]⟩
   |succ i =>obtain⟨L,E,O⟩:=D4d h i f (by grind);simp only[Ad,Hc,C6,Ye,Cp,It,Qp]at E;refine⟨L,E.1,?_⟩;simp only[Am2,Ad,Cp,B5,Ye];exact⟨E.2,O⟩
def D5n{p:Prog}{all:List Ak}:∀{l:List Ak},A2d p all l=none->∀f,f∈l->Bx p all f.bound=none/\isIface p all f.bound=true
 |[],_=>by simp
 |x::l,h=>by rw[A2d]at h;intro f hf;split at h;cases h;rename_i E;split at h;rename_i I;rcases B5.1 hf with rfl|hf;grind;exact D5n h f hf;grind
def A3i{p:Prog}{env l:List Ak}(h:X2 p env l=none):(∀(i:Nat)(f:Ak),l[i]?=some f->kindOf p f.name=0/\f.name∉Ad env/\f.name∉Ad (l.take i))/\∀f,f∈l->Bx p (env++l) f.bound=none/\isIface p (env++l) f.bound=true:=by unfold X2 at h;split at h;cases h;rename_i E;exact⟨D4d E,D5n h⟩
theorem C3j{p:Prog}{env:List Ak}:∀{l:List Param} {pre:List A2},Ve p env pre l=none->∀f,f∈l->Bx p env f.type=none
 |[],_,_=>by simp
 |x::l,pre,h=>by rw[Ve]at h;intro f hf;split at h;cases h;split at h;cases h;rename_i E;rcases B5.1 hf with rfl|hf;exact E;exact C3j h f hf
def Z4{p:Prog}{env:List Ak}{s:A4}(h:Nx p env s=none):X2 p env s.A1=none/\(∀f,f∈s.params->Bx p (env++s.A1) f.type=none)/\Bx p (env++s.A1) s.result=none:=by grind[Nx,C3j]
def E0d{p:Prog}{env:List Ak}:∀{l:List A4} {pre:List A2},Xs p env pre l=none->∀s,s∈l->Nx p env s=none
 |[],_,_=>by simp
 |x::l,pre,h=>by rw[Xs]at h;intro s hs;split at h;cases h;split at h;cases h;rename_i E;rcases B5.1 hs with rfl|hs;exact E;exact E0d h s hs
def D9x{p:Prog}:∀{l pre:List A2},A0a p pre l=false->∀(i:Nat)(v:A2),l[i]?=some v->kindOf p v=0/\v∉pre/\v∉l.take i
 |[],_,_=>by simp
 |x::l,pre,h=>by
  intro i f J;rw[A0a,An3,Ai7]at h;obtain⟨E,U⟩:=Ye.1 h.1;cases i with
  |zero=>grind
  |succ i =>obtain⟨L,I,O⟩:=D9x h.2 i f (by grind);grind
def HW(p:Prog):Prop:=∀(i:Nat)(d:Decl),p.decls[i]?=some d->Xb p i d=none
def A9j{p:Prog}{x:A2}{d:Decl}(h:Fk p x=some d):(d.kind=1\/d.kind=2)/\d.name=x/\d∈p.decls:=by unfold Fk at h;have E:=Ar6 h;have I:=Aj0 h;unfold Decl.J3 at E;grind
def Zq{p:Prog}(O:HW p){x:A2}{d:Decl}(h:Fk p x=some d):X2 p [] d.A1=none/\(d.kind=1->∀f,f∈d.fields->Bx p d.A1 f.type=none)/\(d.kind=2->∀s,s∈d.sigs->Nx p d.A1 s=none):=by obtain⟨L,V,J⟩:=A9j h;obtain⟨i,U⟩:=Pu J;have E:=O i d U;unfold Xb at E;rw[A6 L]at E;unfold B4b at E;split at E;cases E;split at E;cases E;rename_i I;refine⟨I,λk1=>?_,λk2=>?_⟩;rw[A6 k1]at E;grind[C3j];rw[A3 (by omega)]at E;exact E0d E
def A7w{p:Prog}(L:HW p){d:Decl}(hd:d∈p.decls)(J:d.kind=3):kindOf p d.name=1/\d.vars.length=(Ey p d.name).length/\A0a p [] d.vars=false/\Nx p (Hk p d) d.sig=none:=by
 obtain⟨i,O⟩:=Pu hd;have E:=L i d O;unfold Xb at E;rw[A3 (by omega),A6 J]at E;unfold B3j at E;split at E;cases E
 .rename_i I;obtain⟨I,W⟩:=Ye.1 I;split at E;cases E
  .rename_i V;split at E;cases E
   .cases U:Nx p (Hk p d) d.sig with
    |some q=>rw[U]at E;cases E
    |none=>grind
def C9d{p:Prog}{d:Decl}(h:d.vars.length=(Ey p d.name).length):Ad (Hk p d)=d.vars:=by unfold Hk Ad;rw[Dw];exact List.map_snd_zip (by omega)
theorem C8e{p:Prog}(hr:p.right=true){d:Decl}(hd:d∈p.decls):isName d.name=true/\(∀v,v∈d.vars->isName v=true)/\(d.kind=3->∀f,f∈d.sig.A1->isName f.name=true):=by unfold Prog.right at hr;rw[Bi,Dr]at hr;have h:=hr.1 d hd;unfold Decl.right at h;simp at h;refine⟨h.1,h.2.2.2.2.1,λI f J=>?_⟩;have E:=h.2.2.2.2.2;unfold Decl.Uc at E;rw[A6 I]at E;unfold A4.right Qg at E;grind
def A1p{p:Prog}(hr:p.right=true)(L:HW p):PW p:=by
 refine⟨λn V=>?_,λx d hd f E=>?_,λx d hd I f E=>?_,λx d hd I s hs=>?_,λd hd I=>?_⟩;obtain⟨d,hd,_,_⟩:=A7n V;obtain⟨_,O,J⟩:=A9j hd;grind[A9k,C8e];exact A0y (by have:=((A3i (Zq L hd).1).2 f E).1;grind);exact A0y ((Zq L hd).2.1 I f E)
 .obtain⟨U,O,J⟩:=Z4 ((Zq L hd).2.2 I s hs);have key:∀t:Ty,Bx p (d.A1++s.A1) t=none->t.Lf λn=>n∈Ad s.A1\/(n∈Ad d.A1\/kindOf p n≠0):=λt ht =>
   (A0y ht).mono λn V=>by grind[Ad]
  exact⟨λf E=>key _ ((A3i U).2 f E).1,λf E=>key _ (O f E),key _ J⟩
 .obtain⟨_,Z,_,g4⟩:=A7w L hd I;obtain⟨U,O,J⟩:=Z4 g4;have W:=C9d Z;have key:∀t:Ty,Bx p (Hk p d++d.sig.A1) t=none->t.Lf λn=>n∈Ad d.sig.A1\/(n∈d.vars\/kindOf p n≠0):=λt ht =>
   (A0y ht).mono λn V=>by grind[Ad]
  exact⟨λf E=>key _ ((A3i U).2 f E).1,λf E=>key _ (O f E),key _ J⟩
def D3j{F:List A2}{vars E:List A2}{A B:List Ty}{n:Nat}{K:A2->Prop}(hF:F.length=n)(hB:B.length=n)(hA:vars.length=A.length)(L:E=(List.range n).map Dc)
  (hd:∀m,m∈vars->m∉F)(hv:∀m,m∈vars->¬P6 m)(hK:∀m,K m->¬P6 m)(hc:∀u,u∈A->u.Lf λn=>¬P6 n)(b:Ty)(hb:b.Lf λm=>m∈F\/(m∈vars\/K m)) :
  ((b.subst F (D7 n)).subst vars A).subst E B=b.subst (vars++F) (A++B):=by
 have J:∀m,m∈E->P6 m:=λm Z=>by rw[L]at Z;obtain⟨i,_,rfl⟩:=Au.1 Z;exact⟨i,rfl⟩
 induction b using Ty.induct with|_ b ih=>?_;by_cases I:b.args=[]
 .have e0:∀v a,Hu v a b.name=none->b.subst v a=b:=λv a hh=>by rw[J8 λ_=>hh,I];cases b;simp only[Ty.args]at I;subst I;rfl
  by_cases O:b.name∈vars;have V:=hd _ O;obtain⟨k,u,_,_,W,g4⟩:=A3y O (args:=A) (by omega);have a0:=hc u (Bm W);rw[e0 F _ (Pr V),T5 I g4,T5 (vars:=vars++F) (u:=u) I (by rw[B1a hA,A6 O];exact g4),D6j];exact .of (λh Z=>a0.name h (J _ Z)) λx hx=>(a0.arg x hx).mono λm Z a3=>Z (J _ a3)
  .by_cases V:b.name∈F
   .obtain⟨k,u,g1,g2,W,g4⟩:=A3y V (args:=D7 n) (by simp[D7,hF]);have hk:k<n:=by have:=(Aw.1 W).1;simpa [D7]using this
    have hu:u=V4 k:=by unfold D7 at W;rw[Db,Am0 hk]at W;simpa using W.symm
    subst hu;obtain⟨U,w,k1,k2,k3,k4⟩:=A3y V (args:=B) (by omega);have a1:U=k:=by omega
    subst a1;rw[T5 I g4];show Ty.subst E B (Ty.subst vars A (.mk (Dc U) [] b.pos))=_;have a2:Hu E B (Dc U)=some w:=by unfold Hu;rw[L,G7q hk,A6 (by omega),Hx];exact k3
    rw[J8 (t:=.mk (Dc U) [] b.pos) λ_=>Pr λhh=>hv _ hh ⟨U,rfl⟩];show Ty.subst E B (.mk (Dc U) [] b.pos)=_;rw[T5 (t:=.mk (Dc U) [] b.pos) (u:=w) rfl a2,T5 (vars:=vars++F) (u:=w) I (by rw[B1a hA,A3 O];exact k4)];rfl
   .have h3:K b.name:=by rcases hb.name I with h|h|h;exact absurd h V;exact absurd h O;exact h
    rw[e0 F _ (Pr V),e0 vars _ (Pr O),e0 E _ (Pr λhh=>hK _ h3 (J _ hh)),e0 (vars++F) _ (by rw[B1a hA,A3 O,Pr V])]
 .rw[J8 λh=>absurd h I,J8 (t:=.mk _ _ _) λh=>absurd h (by simpa [I8]using I),J8 (t:=.mk _ _ _) λh=>absurd h (by simpa [I8]using I),J8 (t:=b) λh=>absurd h I];simp only[I8,Ro,mkQ,Dw]
  congr 1
  exact Hb λu hu=>ih u hu (hb.arg u hu)
abbrev Ss(p:Prog):D8:=⟨p,false,[],[]⟩
def Ze{p:Prog}{x:Ty}{s:A4}(O:Bb p x 1=true)(hs:s∈Cv p [] x):∃d,d∈p.decls/\d.kind=3/\d.name=x.name/\d.vars.length=x.args.length/\s=d.sig.canon.subst d.vars x.args/\Ga p x s.name=some d:=by
 unfold Cv at hs;have W:Ct [] x=none:=by unfold Ct Fi;simp
 rw[W]at hs;simp at hs;have V:¬Bb p x 2=true:=λh=>by have:=(R3 h).1;grind[R3]
 rw[A3 V]at hs;unfold Gw at hs;rw[Au]at hs;obtain⟨⟨d,i⟩,hd,rfl⟩:=hs;rw[Kr]at hd;have L:=hd.2;unfold J6 at L;simp at L;obtain⟨⟨Z,hn⟩,E⟩:=L;have J:p.decls[i]?=some d:=by have:=hd.1;rw[Cx]at this;obtain⟨_,V,U⟩:=List.mem_zipIdx this;simp at U;rw[U];exact Br _
 have I:N9 p x.name d.sig.name=(i:Int)/\d.vars.length=x.args.length:=by unfold J2 at E;rw[A6 O]at E;split at E;grind;omega
 refine⟨d,Bm J,Z,hn,I.2,rfl,?_⟩;show Ga p x d.sig.name=some d;unfold Ga;rw[A6 O];have hf:p.decls.find? (Ez x.name d.sig.name)=some d:=by
  unfold N9 Cw at I;cases h:p.decls.findIdx? (Ez x.name d.sig.name)with
  |none=>grind
  |some j =>grind[List.findIdx?_eq_some_iff_getElem,List.find?_eq_some_iff_getElem]
 grind
theorem F7h{l:List A2}(h:∀(i:Nat)(v:A2),l[i]?=some v->v∉l.take i){i:Nat}{v:A2}(E:l[i]?=some v):Cb v l 0=i:=by
 have:=Sc (p:=λx:A2=>decide (x=v)) E (by simp) λy I=>by grind
 rw[<-this,A4g (λx:A2=>x) v l,List.map_id']
theorem G1o{vars:List A2}{args:List Ty}{n:A2}{k:Nat}{u:Ty}(h:Cb n vars 0=k)(E:args[k]?=some u):Hu vars args n=some u:=by unfold Hu;grind
section
variable {p:Prog}
def E4q(p:Prog):Sb p [] [] [] []:=⟨rfl,rfl,by simp,by simp[Ad],by simp,by simp,by simp⟩
def G5s{p:Prog}{d:Decl}(J:∀(i:Nat)(v:A2),d.vars[i]?=some v->v∉d.vars.take i){F:List A2}{A B:List Ty}(I:d.vars.length=A.length):((Hj d.vars).map (Ty.subst (d.vars++F) (A++B))).map Ty.er=A.map Ty.er:=by
 refine Mm λi=>?_;simp only[Hj,Dw,Db];cases E:d.vars[i]? with
 |none =>grind
 |some v =>
  have O:=(Aw.1 E).1;have L:A[i]?=some (A[i]'(by omega)):=Br (by omega);rw[L];simp only[Ef,Function.comp]
  congr 1
  rw[T5 (t:=.mk v [] 0) (u:=A[i]'(by omega)) rfl]
  .exact C8r
  .rw[Ro,B1a I,A6 (Bm E)]
   grind[G1o,F7h]
structure D1o(p:Prog)(d:Decl)(x:Ty)(targs:List Ty):Prop where
 sb:Sb p (Hk p d++d.sig.A1) [] (d.vars++Ad d.sig.A1) (x.args++targs)
 wf:∀u,u∈x.args++targs->Bx p [] u=none
 self:((A4v d).subst (d.vars++Ad d.sig.A1) (x.args++targs)).er=x.er
 inst:∀b:Ty,Bx p (Hk p d++d.sig.A1) b=none->((b.subst (Ad d.sig.A1) (D7 d.sig.A1.length)).subst d.vars x.args).subst (Ad d.sig.canon.A1) targs=b.subst (d.vars++Ad d.sig.A1) (x.args++targs)
def called(hr:p.right=true)(hw:HW p){d:Decl}(hd:d∈p.decls)(hk:d.kind=3){x:Ty}(hx:Bx p [] x=none)(hi:Bb p x 1=true)(L:d.name=x.name){targs:List Ty}(ac:d.sig.A1.length=targs.length)
  (ht:∀t,t∈targs->Bx p [] t=none)(hb:Hi p [] (d.sig.canon.subst d.vars x.args).A1 targs<0):D1o p d x targs:=by
 have hp:=A1p hr hw;obtain⟨m1,m2,m3,m4⟩:=A7w hw hd hk;obtain⟨s1,s2,s3⟩:=Z4 m4;obtain⟨f1,f2⟩:=A3i s1;have Z:=C9d m2;obtain⟨x1,x2⟩:=R3 hi;have a1:d.vars.length=x.args.length:=by rw[m2,L,x2]
 have hv:=D9x m3;obtain⟨r1,r2,r3⟩:=C8e hr hd;have a5:(∀u,u∈x.args->Bx p [] u=none)/\Hi p [] (Ey p x.name) x.args<0:=by rcases B0d.1 hx with h|⟨_,_,h3,h4⟩;grind[Ct];grind
 have aa:∀u,u∈x.args++targs->Bx p [] u=none:=λu I=>(C6.1 I).elim (a5.1 u) (ht u);have a7:∀u,u∈x.args++targs->u.Lf λn=>¬P6 n:=λu I=>(A0y (aa u I)).mono λn L=>L.elim (by simp[Ad]) (hp.name n);have ag:(Ad d.sig.A1).length=d.sig.A1.length:=by simp[Ad]
 have a8:∀m,m∈d.vars->m∉Ad d.sig.A1:=λm hm hf=>by obtain⟨f,ae,aj⟩:=Au.1 hf;grind[List.getElem?_of_mem]
 have a3:Ad d.sig.canon.A1=(List.range d.sig.A1.length).map Dc:=by rw[(A7m d.sig).fs];simp[A4.canon,H4]
 have W:∀b:Ty,Bx p (Hk p d++d.sig.A1) b=none->((b.subst (Ad d.sig.A1) (D7 d.sig.A1.length)).subst d.vars x.args).subst (Ad d.sig.canon.A1) targs=b.subst (d.vars++Ad d.sig.A1) (x.args++targs):=λb hb =>
  D3j (K:=λn=>kindOf p n≠0) ag ac.symm a1 a3 a8 (λm hm=>A9k (r2 m hm)) hp.name (λu I=>a7 u (At5 _ I)) b ((A0y hb).mono λn L=>by grind[Ad])
 have O:Ad (Hk p d++d.sig.A1)=d.vars++Ad d.sig.A1:=by rw[<-Z];unfold Ad;rw[Hc]
 have a4:kindOf p d.name≠0:=by omega
 obtain⟨J,a6,am,U⟩:=A7n a4;obtain⟨t1,t2⟩:=A3i (Zq hw a6).1;have af:=G5s (p:=p) (d:=d) (λi v h=>(hv i v h).2.2) (F:=Ad d.sig.A1) (A:=x.args) (B:=targs) a1;have E:∀n,n∈d.vars++Ad d.sig.A1->kindOf p n=0/\¬P6 n:=λn L=>by rcases C6.1 L with h|h;grind[List.getElem?_of_mem,A9k];obtain⟨f,ae,rfl⟩:=Au.1 h;grind[List.getElem?_of_mem,A9k]
 have a2:∀n,n∈Ad (Hk p d++d.sig.A1)->kindOf p n=0:=λn L=>(E n (by grind)).1;have a9:∀(l:Ak),l∈J.A1->∀a:List Ty,(l.bound.subst (Ad J.A1) a).name=l.bound.name/\(l.bound.subst (Ad J.A1) a).args.length=l.bound.args.length/\Bb p l.bound 2=true:=by
  intro l hl a;have V:=(t2 l hl).2;simp at V;unfold isIface at V;rw[Bi]at V;have a0:Ct J.A1 l.bound=none:=by
   cases hh:Ct J.A1 l.bound with
   |none=>rfl
   |some y=>grind
  have:l.bound.subst (Ad J.A1) a=.mk l.bound.name (l.bound.args.map (Ty.subst (Ad J.A1) a)) l.bound.pos:=J8 λha=>Pr (E7d a0 ha);rw[this];exact⟨rfl,by simp[I8],V.1⟩
 refine⟨⟨O.symm,by grind,E,by simp[Ad],a7,λf hf=>?_,λi f u hf I=>?_⟩,aa,?_,W⟩
 .rcases C6.1 hf with hf|hf
  .unfold Hk at hf;obtain⟨⟨l,w⟩,hz,rfl⟩:=Au.1 hf;have hl:l∈J.A1:=by rw[<-U];exact(Au0 hz).1
   obtain⟨g1,g2,g3⟩:=a9 l hl (Hj d.vars);unfold isIface;simp only;rw[U,Bi];refine⟨D5c g3 g1 g2,?_⟩;rw[B1o a2 (by grind[R3])];rfl
  grind
 .by_cases ao:i<d.vars.length
  .have a':(Hk p d).length=d.vars.length:=by have:=Gf List.length Z;simpa [Ad]using this
   rw[N0 (by omega)]at hf I;unfold Hk at hf;rw[Db,P1]at hf;obtain⟨⟨l,w⟩,hz,rfl⟩:=hf;rw[Am3]at hz;have ad:=Wp.1 a5.2 i l u (by grind) I;refine R9 ad (Rk ?_);simp only;rw[<-L,U];have hl:l∈J.A1:=by rw[<-U];exact Bm hz.1
   rw[A8r _ _ _ _ (by grind[Ad,Hj]) _ ((hp.bnd _ J a6 l hl).mono λn L=>L.imp_right λh hm=>h (E n hm).1),Hq,Hq,af]
  .have a':(Hk p d).length=d.vars.length:=by have:=Gf List.length Z;simpa [Ad]using this
   rw[Ma (by omega)]at hf I;rw[a']at hf;rw[<-a1]at I;have ai:=Bm hf;have ah:(d.sig.canon.subst d.vars x.args).A1[i - d.vars.length]?=some ⟨Dc (i - d.vars.length),(f.bound.subst (Ad d.sig.A1) (D7 d.sig.A1.length)).subst d.vars x.args,f.pos⟩:=by have ab:=(Aw.1 hf).1;simp only[A4.subst,A4.canon,H4];rw[Db,S5,hf];simp only[Ef,Ak.subst,A6 ab]
   have:=Wp.1 hb _ _ u ah I;simp only at this;have ak:Ad (d.sig.canon.subst d.vars x.args).A1=Ad d.sig.canon.A1:=by simp only[A4.subst,Ad,Dw];rfl
   grind
 .rw[A9z];have a0:(if(A4v d).args=[]then Hu (d.vars++Ad d.sig.A1) (x.args++targs) (A4v d).name else none)=none:=by split;refine Pr λhm=>?_;have:=(E _ hm).1;exact a4 this;rfl
  rw[a0];simp only[A4v,I8,Ro,mkQ];grind[Ia,Ro,I8]
def C7u{e:Ex}{t:Ty}(E:e.kind=3)(h:D6 (Ss p) e=(t,none)):Bx p [] e.type=none/\Bb p e.type 1=true/\V8 (Ss p) ((Bo p e.type).map (·.type)) e.kids/\t=e.type:=by grind[Jr,B0x]
def keeps(hr:p.right=true)(hw:HW p)(a':∀d,d∈p.decls->(U3 p true d).bad=false):∀(e:Ex)(t:Ty),D6 (Ss p) e=(t,none)->(Bn p e).2=1->∃t',D6 (Ss p) (Bn p e).1=(t',none)/\Cg p [] t' t=true:=by
 have hp:=A1p hr hw;intro e;induction e using Ex.induct with|_ e ih=>?_;intro t ht J;rw[S8]at J |-;rcases Z1 p e.kids with⟨ha,hb⟩|⟨i,k,ha,hi,hv,ad,hb⟩
 .rw[hb]at J |-;simp only at J |-;have Z:∀x,x∈e.kids->isVal x=true:=λx hx=>by grind[Lo]
  unfold Nt at J |-;by_cases h3:e.kind=3
  grind;rw[A3 h3]at J |-;rcases Jr.1 ht with⟨h1,k,f,_,h2,_⟩|⟨h,_⟩|⟨v,vs,x,O,hx,L⟩
  grind;omega;rw[O]at J |-;simp only[Md]at J |-;have a5:v.kind=3:=by have:=Z v (by grind);rw[A4h]at this;simp at this;exact this.2
  obtain⟨l1,l2,l3,rfl⟩:=C7u a5 hx;rcases L with⟨k2,s,hs,hK,rfl⟩|⟨k4,_,k,f,a0,V,rfl⟩|⟨k5,hc,_,rfl⟩
  .rw[A6 k2]at J |-;obtain⟨s1,s2,s3,s4,s5,s6⟩:=A0t.1 hs;obtain⟨d,d1,d2,d3,d4,rfl,d6⟩:=Ze l2 s1;have a1:d.sig.A1.length=e.targs.length:=by rw[<-s3];simp[A4.subst,A4.canon,H4]
   have a7:d.sig.params.length+1=e.kids.length:=by rw[s6];simp[A4.subst,A4.canon,Hr]
   have E:=called hr hw d1 d2 l1 l2 d3 a1 s4 s5;unfold Wx;rw[<-s2,d6];simp only;rw[A6 ⟨a1,a7⟩];simp only;obtain⟨_,_,_,m4⟩:=A7w hw d1 d2;obtain⟨_,c2,c3⟩:=Z4 m4;have I:=a' d d1;unfold U3 at I;rw[A6 d2]at I;unfold Ua at I;have a2:(Df (Jz p true d) d.body).2.bad=false/\Cg p (Hk p d++d.sig.A1) (Df (Jz p true d) d.body).1 d.sig.result=true:=by split at I;cases I;grind[Jz]
   have a9:=B8s a2.1;have W:Ad (d.sig.canon.subst d.vars v.type.args).A1=Ad d.sig.canon.A1:=by simp only[A4.subst,Ad,Dw];rfl
   obtain⟨t',g1,g2⟩:=D9y hp E.sb E.wf (st:=true) (vars:=⟨d.recv,A4v d,0⟩::d.sig.params) (vars':=[]) (vals:=e.kids) (by grind) (by
    intro i f u U hu;cases i with
    |zero =>simp at U;rw[O]at hu;simp at hu;subst U;subst hu;exact⟨v.type,hx,Rk E.self.symm⟩
    |succ i =>
     rw[Q3]at U;rw[O,Q3]at hu;have a8:(T7 (d.sig.canon.subst d.vars v.type.args) e.targs)[i]?=some (f.type.subst (d.vars++Ad d.sig.A1) (v.type.args++e.targs)):=by have aa:=(Aw.1 U).1;unfold T7;rw[W];simp only[A4.subst,A4.canon,Hr];rw[Db,Db,S5,U];simp only[Ef,Param.subst];rw[<-E.inst _ (c2 f (Bm U))];rfl
     exact hK.2 i _ u a8 hu) d.body _ a9
   refine⟨t',?_,?_⟩;grind[A9d];refine R9 g2 (R9 (B4h hp E.sb a2.2) (Rk ?_));rw[<-E.inst _ c3,W];rfl
  .rw[A3 (by omega),A6 k4]at J |-;unfold Vd at J |-;simp only at a0 V;have a3:Cw (λf:Param=>decide (f.name=e.name)) (Bo p v.type)=k:=a0;rw[a3]at J |-;have a4:k<v.kids.length:=by have h1:=(Aw.1 V).1;have h2:=l3.1;rw[Bc]at h2;omega
   rw[A6 ⟨l2,by omega,by omega⟩,Hx,Br a4];simp;exact l3.2 k f.type _ (by grind) (Br a4)
  .rw[A3 (by omega),A3 (by omega),A6 k5]at J |-;unfold Ug at J |-
   grind
 .rw[hb]at J |-;simp only at J |-;have a6:(Bn p k).2=1:=by split at J;omega;omega
  rw[A6 a6];simp only;have ab:=Bm hi;have ac:=(Aw.1 hi).1;by_cases k1:e.kind=1;grind[Jr]
  obtain⟨t',g1,g2⟩:=C6i hp (E4q p) (by simp) (st:=false) (vars:=[]) (vars':=[]) (e:=e) (e':=e.Hz (e.kids.set i (Bn p k).1)) (t:=t) rfl rfl (by rw[Q7];rfl) (by
    rw[Hb (g:=id) λu _=>Q7 u,List.map_id];rfl) (by simp[Ex.Hz,Ex.kids]) k1 ht (by
    intro j q q' K h1 h2 h3;have h2:(e.kids.set i (Bn p k).1)[j]?=some q':=h2;grind[Q7,B7e])
  grind[Q7]
end
end Go.Abs
/- no expression with a type is stuck -/
namespace Go.Abs
open Go Go.Proofs
def G1x{p:Prog}{e:Ex}{t:Ty}(U:e.One)(ht:D6 (Ss p) e=(t,none)):∀x,x∈e.kids->∃K,D6 (Ss p) x=(K,none):=by
 have key:∀(L:List Ty) (es:List Ex),V8 (Ss p) L es->∀x,x∈es->∃K,D6 (Ss p) x=(K,none):=λL es E x O=>by
  obtain⟨i,V⟩:=Pu O;have J:i<L.length:=by rw[E.1];exact(Aw.1 V).1
  obtain⟨K,hk,_⟩:=E.2 i _ x (Br J) V;grind
 rcases Jr.1 ht with⟨_,k,f,_,h2,_⟩|⟨_,_,_,E,_⟩|⟨v,vs,x,I,O,W⟩;grind;grind;intro y hy;rw[I]at hy;rcases B5.1 hy with rfl|hy;grind;rcases W with⟨_,s,_,E,_⟩|⟨k4,_⟩|⟨Z,_⟩;grind;have:=U.out.1.2 (.inl k4);grind;have:=U.out.1.2 (.inr Z);grind
end Go.Abs
/- what StepKeeps asks of a step, out of keeps -/
namespace Go.Abs
open Go Go.Proofs
end Go.Abs
/- a program that is well typed, strictly or not, is never stuck, however many steps it makes -/
namespace Go.Abs
open Go Go.Proofs
def D5g{c:D8}{E:List Ty}{es:List Ex}(O:∀x,x∈es->∀t,D6 c x=(t,none)->D6 { c with strict:=false } x=(t,none))(h:V8 c E es):V8 { c with strict:=false } E es :=⟨h.1,λi w k J I=>by
  obtain⟨K,L,U⟩:=h.2 i w k J I
  grind⟩
def lax(c:D8):∀(e:Ex)(t:Ty),D6 c e=(t,none)->D6 { c with strict:=false } e=(t,none):=by intro e;induction e using Ex.induct with|_ e O=>?_;intro t h;refine Jr.2 ?_;rcases Jr.1 h with h1|⟨W,h4,h5,J,L⟩|⟨v,vs,x,I,U,Z⟩;grind;exact .inr (.inl ⟨W,h4,h5,D5g O J,L⟩);have E:∀y,y∈v::vs->∀t,D6 c y=(t,none)->D6 { c with strict:=false } y=(t,none):=λy V=>O y (by grind);refine .inr (.inr ⟨v,vs,x,I,E v (by simp) x U,?_⟩);rcases Z with⟨k2,s,hs,hK,ht⟩|h4|⟨k5,J,_,L⟩;exact .inl ⟨k2,s,hs,D5g (λy V=>E y (by grind)) hK,ht⟩;exact .inr (.inl h4);grind
def D5h:∀l:List Ex,(∀x,x∈l->x.One)->Ex.A1e l
 |[],_=>trivial
 |x::l,h=>by rw[Ex.A1e];exact⟨h x (by simp),D5h l λy E=>h y (by grind)⟩
def Ex.One.of{e:Ex}(h:C3s e)(E:∀x,x∈e.kids->x.One):e.One:=by cases e with|mk k n t a ks q=>rw[Ex.One];exact⟨h,D5h ks E⟩
def D3o{e:Ex}(f:Ex->Ex)(n:A2)(t:Ty)(a:List Ty)(q:Int)(h:e.One)(L:∀x,x∈e.kids->(f x).One):(Ex.mk e.kind n t a (e.kids.map f) q).One :=.of ⟨λI=>by show e.kids.map f=[];rw[h.out.1.1 I];rfl,λJ=>by show(e.kids.map f).length=1;rw[Bc];exact h.out.1.2 J⟩ λx E=>by
  obtain⟨y,O,rfl⟩:=Au.1 E
  grind
def Ex.One.subst(v:List A2)(a:List Ty):∀{e:Ex},e.One->(e.subst v a).One:=by intro e;induction e using Ex.induct with|_ e I=>?_;intro h;rw[N2];exact D3o _ _ _ _ _ h λy E=>I y E (h.out.2 y E)
def Ex.One.Eo{names:List A2}{vals:List Ex}(J:∀x,x∈vals->x.One):∀{e:Ex},e.One->(e.Eo names vals).One:=by intro e;induction e using Ex.induct with|_ e I=>?_;intro h;rw[A6u];have L:(e.Hz (e.kids.map (Ex.Eo names vals))).One:=D3o _ _ _ _ _ h λy E=>I y E (h.out.2 y E);grind[R6]
def F2o{p:Prog}{x:Ty}{m:A2}{d:Decl}(h:Ga p x m=some d):d.kind=3:=by unfold Ga at h;split at h;split at h;rename_i E;split at h;cases h;have:=Ar6 E;unfold Ez at this;grind;grind;grind;grind
def F8t{p:Prog}(V:∀d,d∈p.decls->d.kind=3->d.body.One):∀{e:Ex},e.One->(Bn p e).1.One:=by
 intro e;induction e using Ex.induct with|_ e ih=>?_;intro E;rw[S8];rcases Z1 p e.kids with⟨_,I⟩|⟨i,k,_,hi,_,_,I⟩
 .rw[I];simp only;unfold Nt;split;exact E
  .split;exact E
   .rename_i v U;have L:=E.out.2 v (Bm U);split;unfold Wx;split;exact E;rename_i d hd;split;exact Ex.One.Eo E.out.2 (Ex.One.subst _ _ (V d (C3a hd) (F2o hd)));omega;split
    .unfold Vd;split
     .simp only;cases W:v.kids[(Cw (λf:Param=>decide (f.name=e.name)) (Bo p v.type)).toNat]? with
      |none=>grind
      |some x=>exact L.out.2 x (Bm W)
     omega
    grind[Ug]
 rw[I];simp only;split;have J:=Bm hi;refine .of ⟨λZ=>?_,λh4=>?_⟩ λu O=>?_;have:=E.out.1.1 Z;grind;show(e.kids.set i _).length=1;rw[List.length_set];exact E.out.1.2 h4;rcases Am4 O with O|rfl;exact E.out.2 u O;exact ih k J (E.out.2 k J);omega
def A7g{p:Prog}(hr:p.right=true):(∀d,d∈p.decls->d.kind=3->d.body.One)/\p.main.One:=by unfold Prog.right at hr;simp at hr;refine⟨λd hd E=>?_,Ex.E4n _ hr.2⟩;have:=hr.1 d hd;unfold Decl.right Decl.Uc at this;rw[A6 E]at this;simp only[Bi]at this;grind[Ex.E4n]
def D4x{p:Prog}{st:Bool}:∀{l:List Decl} {i:Nat},(Zs p st l i).bad=false->(Df ⟨p,st,[],[]⟩ p.main).2.bad=false
 |[],_,h=>h
 |x::l,i,h=>by
  rw[Zs]at h;cases E:Xb p i x with
  |some q=>rw[E]at h;cases h
  |none =>rw[E]at h;simp only at h;split at h;grind;exact D4x h
end Go.Abs
/- castingslaw25.awake; the walk of StepSplits -/
namespace Go.Abs
open Go Go.Proofs
def r0:Ty:=.mk [] [] 0
def rT:Ty:=.mk [84] [] 0
def rB:Ty:=.mk [66] [] 0
def rt:Ex:=.mk 3 [] rT [] [] 0
def rb:Ex:=.mk 3 [] rB [] [rt] 0
def rs:Ex:=.mk 4 [118] r0 [] [rb] 0
def ru:Ex:=.mk 1 [120] r0 [] [] 0
def ra:Ex:=.mk 5 [] rB [] [rt] 0
def rEx:Ex:=.mk 0 [] r0 [] [] 0
def D7k:A4:=⟨[],[],[],r0,0⟩
def rP:Prog:=⟨[⟨1,[84],[],[],[],[],[],D7k,rEx,0⟩,⟨1,[66],[],[⟨[118],rT,0⟩],[],[],[],D7k,rEx,0⟩],rEx⟩
def D9j(e:Ex)(h:e.count 0<=2000):e.Sm:=Ex.G3 e 0 (by decide) h
def w1:Bn rP rs=(rt,1):=by
 have E:Lp rP rs.kids=none:=by rfl
 rw[S8,E];simp only;unfold Nt;rw[A3 (by decide),show rs.kids[0]?=some rb from rfl];simp only;rw[A3 (by decide),A6 (by decide)];unfold Vd;rw[A6 (by decide +kernel)];rfl
def w2:Bn rP rt=(rt,2):=by rw[S8,show Lp rP rt.kids=none by rfl];simp only;unfold Nt;rw[A6 (by decide)]
def w3:Bn rP ru=(ru,4):=by rw[S8,show Lp rP ru.kids=none by rfl];simp only;unfold Nt;rw[A3 (by decide),show ru.kids[0]?=none from rfl]
def w4:Bn rP ra=(ra,3):=by rw[S8,show Lp rP ra.kids=none by rfl];simp only;unfold Nt;rw[A3 (by decide),show ra.kids[0]?=some rt from rfl];simp only;rw[A3 (by decide),A3 (by decide),A6 (by decide)];unfold Ug Cg;rw[show isIface rP [] ra.type=false by decide +kernel];simp only[I5,Fm];rw[A3 (by decide +kernel)]
def w5:Hd rP 5 rs=(rt,1,2):=by rw[Hd,w1];simp only[Ac];rw[G2h (by rw[w2];decide),w2];rfl
def w6:D7u rs=(rs,true):=by rfl
end Go.Abs
/- the walk of StepProgress -/
namespace Go.Abs
open Go Go.Proofs
def G4c{vars:List A2}{vals:List Ex}(O:∀u,u∈vals->u.Sm):∀e:Ex,e.Sm->(e.Eo vars vals).Sm:=by
 intro e;induction e using Ex.induct with|_ e U=>?_;intro E;rw[A6u];have J:(e.Hz (e.kids.map (Ex.Eo vars vals))).Sm:=.mk _ _ _ _ _ _ E.name E.type E.targs.1 E.targs.2 (by rw[Bc];exact E.kids.1) λu V=>by obtain⟨x,I,rfl⟩:=Au.1 V;exact U x I (E.kids.2 x I)
 unfold R6;split
 .cases L:vals[(Cb (e.Hz (e.kids.map (Ex.Eo vars vals))).name vars 0).toNat]? with
  |none=>exact J
  |some u=>exact O u (Bm L)
 exact J
def C3b{p:Prog}(h:p.Sm):∀e:Ex,e.Sm->(Bn p e).1.Sm:=by
 intro e;induction e using Ex.induct with|_ e W=>?_;intro E;rw[S8];rcases Z1 p e.kids with⟨_,L⟩|⟨i,k,_,O,_,_,L⟩
 .rw[L];simp only;unfold Nt;split;exact E
  .split;exact E
   .rename_i v U;have I:=E.kids.2 v (Bm U);split;unfold Wx;split;exact E;rename_i d hd;split;exact G4c E.kids.2 _ (Ex.Sm.subst (λu J=>(C6.1 J).elim (I.type.arg u) (E.targs.2 u)) _ (h.decls.2 d (C3a hd)).body);exact E;split
    .unfold Vd;split
     .simp only;cases V:v.kids[(Cw (λf:Param=>decide (f.name=e.name)) (Bo p v.type)).toNat]? with
      |none=>exact I
      |some x=>exact I.kids.2 x (Bm V)
     exact E
    split;unfold Ug;split;exact I;exact E;exact E
 rw[L];simp only;split;refine .mk _ _ _ _ _ _ E.name E.type E.targs.1 E.targs.2 (by rw[List.length_set];exact E.kids.1) λu J=>?_;rcases Am4 J with J|rfl;exact E.kids.2 u J;exact W k (Bm O) (E.kids.2 k (Bm O));exact E
end Go.Abs
