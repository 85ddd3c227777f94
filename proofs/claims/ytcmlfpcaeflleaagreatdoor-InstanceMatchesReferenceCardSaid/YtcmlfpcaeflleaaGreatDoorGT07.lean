/- substitution of types: composition, exchange; names that a type has -/
import Derived.Test.YtcmlfpcaeflleaaGreatDoorGV05
set_option linter.all false
set_option maxHeartbeats 1000000
set_option maxRecDepth 100000
namespace Go.Abs
open Go Go.Proofs
inductive Ty.Lf(S:A3->Prop):Ty->Prop where
 |mk (n:A3) (a:List Ty) (p:Int):(a=[]->S n)->(∀t,t∈a->Ty.Lf S t)->Ty.Lf S (.mk n a p)
def Ty.Lf.name{S:A3->Prop}{t:Ty}(h:t.Lf S)(E:t.args=[]):S t.name:=by cases h with|mk n a p I J=>exact I E
def Ty.Lf.arg{S:A3->Prop}{t:Ty}(h:t.Lf S):∀u,u∈t.args->u.Lf S:=by cases h with|mk n a p I E=>exact E
def Ty.Lf.of{S:A3->Prop}{t:Ty}(I:t.args=[]->S t.name)(E:∀u,u∈t.args->u.Lf S):t.Lf S:=by cases t with|mk n a p=>exact .mk n a p I E
def Ty.Lf.mono{S T:A3->Prop}{t:Ty}(h:t.Lf S)(hs:∀n,S n->T n):t.Lf T:=by
 induction t using Ty.induct with
 |h t J=>exact .of (λI=>hs _ (h.name I)) λu E=>J u E (h.arg u E)
def Hw(vars:List A3)(args:List Ty)(n:A3):Option Ty:=if 0<=Dc n vars 0/\Dc n vars 0<args.length then args[(Dc n vars 0).toNat]? else none
def B0t(vars:List A3)(args:List Ty)(t:Ty):t.subst vars args=match(if t.args=[]then Hw vars args t.name else none)with
  |some u=>.mk u.name u.args t.pos
  |none=>.mk t.name (t.args.map (Ty.subst vars args)) t.pos:=by
 rw[Xj];unfold Hw
 grind
theorem T6{vars:List A3}{args:List Ty}{t u:Ty}(E:t.args=[])(h:Hw vars args t.name=some u):t.subst vars args=.mk u.name u.args t.pos:=by rw[B0t,A9 E,h]
theorem Jd{vars:List A3}{args:List Ty}{t:Ty}(h:t.args=[]->Hw vars args t.name=none):t.subst vars args=.mk t.name (t.args.map (Ty.subst vars args)) t.pos:=by
 rw[B0t]
 grind
theorem Pu{vars:List A3}{args:List Ty}{n:A3}(h:n∉vars):Hw vars args n=none:=by
 unfold Hw;rcases A3h n vars 0 with⟨E,_⟩|⟨k,E,I⟩
 .grind
 grind
theorem A4j{vars:List A3}{args:List Ty}{n:A3}(h:n∈vars)(M:vars.length<=args.length):∃(k:Nat)(u:Ty),Dc n vars 0=k/\vars[k]?=some n/\args[k]?=some u/\Hw vars args n=some u:=by
 unfold Hw;rcases A3h n vars 0 with⟨_,J⟩|⟨k,I,J⟩
 .grind
 .have L:=(B5.1 I).1;have E:k<args.length:=by omega
  refine⟨k,args[k],by omega,I,B8 E,?_⟩
  grind
def B9o{vars:List A3}{args:List Ty}{n:A3}{u:Ty}(h:Hw vars args n=some u):n∈vars/\u∈args:=by
 have E:u∈args:=by
  unfold Hw at h;split at h
  .grind
  .cases h
 refine⟨Ai9 λI=>?_,E⟩
 grind [Pu]
theorem C8i(f:Ty->Ty)(vars:List A3)(args:List Ty)(n:A3):Hw vars (args.map f) n=(Hw vars args n).map f:=by grind [Hw]
theorem D2c(v:List A3)(a:List Ty)(u:Ty)(q:Int):(Ty.mk u.name u.args q).subst v a=.mk (u.subst v a).name (u.subst v a).args q:=by
 by_cases E:u.args=[]
 .cases I:Hw v a u.name with
  |some w=>rw[T6 (t:=.mk u.name u.args q) (u:=w) E I,T6 E I];rfl
  |none=>rw[Jd (t:=.mk u.name u.args q) λ_=>I,Jd λ_=>I];rfl
 .rw[Jd (t:=.mk u.name u.args q) λh=>absurd h E,Jd (t:=u) λh=>absurd h E];rfl
def B0v(I:List A3)(L:List Ty)(J:List A3)(O:List Ty)(Z:I.length<=L.length)(t:Ty)(h:t.Lf λn=>n∈I\/n∉J):(t.subst I L).subst J O=t.subst I (L.map (Ty.subst J O)):=by
 induction t using Ty.induct with
 |h t W =>
 by_cases E:t.args=[]
 .by_cases M:t.name∈I
  .grind [A4j,T6,C8i,D2c]
  .have V:t.name∉J:=(h.name E).resolve_left M;have e1:∀a,t.subst I a=t:=λa=>by
    rw[Jd λ_=>Pu M,E];cases t;simp only[Ty.args]at E;subst E;rfl
   grind [Jd,Pu]
 .rw[Jd λh=>absurd h E,Jd (t:=t) λh=>absurd h E,Jd λh=>absurd h (by simpa [F4]using E)];simp only[F4,J2,mkQ,Fo]
  congr 1
  exact J7 λu U=>W u U (h.arg u U)
def E3d{v:List A3}{a:List Ty}{t:Ty}(h:t.Lf λn=>n∉v):t.subst v a=t:=by
 induction t using Ty.induct with
 |h t J =>
 rw[Jd λI=>Pu (h.name I)];rw[J7 (g:=id) λu E=>J u E (h.arg u E)];cases t;simp[Ty.name,Ty.args,Ty.pos]
def E8j{L:List A3}{U:List Ty}{I:List A3}{J:List Ty}(hd:∀n,n∈L->n∉I)(hc:∀u,u∈J->u.Lf λn=>n∉L)(t:Ty):(t.subst L U).subst I J=(t.subst I J).subst L (U.map (Ty.subst I J)):=by
 induction t using Ty.induct with
 |h t ih =>
 by_cases E:t.args=[]
 .have W:∀v a,Hw v a t.name=none->t.subst v a=t:=λv a hh=>by
   rw[Jd λ_=>hh,E];cases t;simp only[Ty.args]at E;subst E;rfl
  cases O:Hw L U t.name with
  |some u =>have V:=hd _ (B9o O).1;rw[W I J (Pu V),T6 E O,T6 (u:=u.subst I J) E (by rw[C8i,O];rfl),D2c]
  |none =>
   rw[W L U O];cases Z:Hw I J t.name with
   |some w =>have M:=hc w (B9o Z).2;rw[T6 E Z,E3d];exact .of (λh=>M.name h) λx hx=>M.arg x hx
   |none =>grind [C8i]
 .rw[Jd λh=>absurd h E,Jd (t:=t) λh=>absurd h E,Jd λh=>absurd h (by simpa [F4]using E),Jd λh=>absurd h (by simpa [F4]using E)];simp only[F4,J2,mkQ,Fo];simp_all
def G0m{S T:A3->Prop}{v:List A3}{a:List Ty}(M:∀n,S n->Hw v a n=none->T n)(O:∀u,u∈a->u.Lf T){t:Ty}(h:t.Lf S):(t.subst v a).Lf T:=by
 induction t using Ty.induct with
 |h t U =>
 by_cases J:t.args=[]
 .cases E:Hw v a t.name with
  |some u =>rw[T6 J E];have:=O u (B9o E).2;exact .of (λI=>this.name I) λx L=>this.arg x L
  |none =>rw[Jd λ_=>E,J];exact .of (λ_=>M _ (h.name J) E) (by simp[F4])
 .rw[Jd λI=>absurd I J];refine .of (λI=>absurd I (by simpa [F4]using J)) λx L=>?_;simp only[F4,B1]at L;obtain⟨u,E,rfl⟩:=L;exact U u E (h.arg u E)
def E4d(n:A3):∀(v:List A3)(i:Nat),Dc n v i=if n∈v then Dc n v 0+i else -1:=by
 intro v
 induction v with
 |nil=>intro i;rfl
 |cons x v E =>
  intro i;rw[Dc,Dc]
  grind
def H1w{α:Type}(p:α->Bool)(x:α)(l:List α):Dq p (x::l)=if p x=true then 0 else if Dq p l = -1 then -1 else Dq p l+1:=by
 unfold Dq
 grind
theorem B1v{α:Type}(g:α->A3)(E:A3):∀l:List α,Dq (λf=>decide (g f=E)) l=Dc E (l.map g) 0
 |[]=>rfl
 |x::l=>by
  rw[H1w,B1v g E l,Ck,Dc,E4d E (l.map g) (0+1)];by_cases L:E=g x
  .grind
  .rw[A6 L,A6 (by grind)];rcases A3h E (l.map g) 0 with⟨J,I⟩|⟨k,J,I⟩
   .grind
   grind
def B3k{E I:List A3}{M W:List Ty}(hl:E.length=M.length)(n:A3):Hw (E++I) (M++W) n=if n∈E then Hw E M n else Hw I W n:=by
 have L:∀(E:List A3) (i:Nat),Dc n (E++I) i=if n∈E then Dc n E i else Dc n I (i+E.length):=by
  intro E
  induction E with
  |nil=>simp
  |cons x E ih =>
   intro i;rw[Qp,Dc,Dc,ih]
   grind
 have O:=E4d n;unfold Hw;rw[L E 0];by_cases J:n∈E
 .rw[A9 J,A9 J];obtain⟨k,u,h1,V,U,Z⟩:=A4j J (args:=M) (by omega)
  grind
 .rw[A6 J,A6 J,O I (0+E.length)];by_cases V:n∈I
  .rw[A9 V];rcases A3h n I 0 with⟨_,U⟩|⟨k,U,Z⟩
   .grind
   grind
  grind
def F2g{I M:List A3}{J U:List Ty}(V:I.length=J.length){t:Ty}(h:t.Lf λn=>n∈I\/n∉M):t.subst (I++M) (J++U)=t.subst I J:=by
 induction t using Ty.induct with
 |h t W =>
 rw[B0t,B0t I J];by_cases E:t.args=[]
 .rw[A9 E,A9 E,B3k V,E];by_cases L:t.name∈I
  .grind
  .rw[A6 L,Pu L,Pu ((h.name E).resolve_left L)];rfl
 .rw[A6 E,A6 E];simp only;rw[J7 λu O=>W u O (h.arg u O)]
def A5.Lf(S:A3->Prop)(s:A5):Prop:=(∀f,f∈s.A1->f.bound.Lf S)/\(∀f,f∈s.params->f.type.Lf S)/\s.result.Lf S
def A5.Lf.mono{S T:A3->Prop}{s:A5}(h:s.Lf S)(hs:∀n,S n->T n):s.Lf T:=⟨λf E=>(h.1 f E).mono hs,λf E=>(h.2.1 f E).mono hs,h.2.2.mono hs⟩
def E5x(E:List A3)(M:List Ty)(J:List A3)(O:List Ty)(L:E.length<=M.length)(s:A5)(h:s.Lf λn=>n∈E\/n∉J):(s.subst E M).subst J O=s.subst E (M.map (Ty.subst J O)):=by
 simp only[A5.subst,Fo,A5.mk.injEq,Qi,Sh];refine⟨J7 λf I=>?_,J7 λf I=>?_,B0v _ _ _ _ L _ h.2.2⟩
 .simp only[Function.comp,Am.subst,B0v _ _ _ _ L _ (h.1 f I)]
 .simp only[Function.comp,Param.subst,B0v _ _ _ _ L _ (h.2.1 f I)]
def Nr(n:A3):Prop:=∃i,n=G0 i
theorem G7a(i:Nat){S:A3->Prop}(h:∀n,Nr n->S n):(Ve i).Lf S:=.of (λ_=>h _ ⟨i,rfl⟩) (by simp[Ve,F4])
def F0v(n:Nat){S:A3->Prop}(h:∀n,Nr n->S n):∀u,u∈Dg n->u.Lf S:=λu E=>by grind [Dg,G7a]
def D7g{S T:A3->Prop}{s:A5}(h:s.Lf λn=>n∈Af s.A1\/S n)(hs:∀n,S n->T n)(O:∀n,Nr n->T n):s.canon.Lf T:=by
 have key:∀t:Ty,t.Lf (λn=>n∈Af s.A1\/S n)->(t.subst (Af s.A1) (Dg s.A1.length)).Lf T:=λt ht =>
  G0m (S:=λn=>n∈Af s.A1\/S n) (λn L J=>L.elim (λM=>by obtain⟨_,_,_,_,_,U⟩:=A4j M (args:=Dg s.A1.length) (by simp[Af,Dg]);rw[U]at J;cases J) (hs n)) (F0v _ O) ht
 refine⟨λf E=>?_,λf E=>?_,key _ h.2.2⟩
 .simp only[A5.canon,Hp]at E;obtain⟨i,I,rfl⟩:=List.mem_mapIdx.1 E;exact key _ (h.1 _ (Fa I))
 .simp only[A5.canon,Kg]at E;obtain⟨i,I,rfl⟩:=List.mem_mapIdx.1 E;exact key _ (h.2.1 _ (Fa I))
structure A5.Cn(s:A5):Prop where
 fs:Af s.A1=(List.range s.A1.length).map G0
 ps:∀f,f∈s.params->f.name=[]
def B8n(s:A5):s.canon.Cn:=by
 refine⟨?_,λf E=>?_⟩
 .refine List.ext_getElem (by simp[Af,A5.canon,Hp]) λi I J=>?_;simp only[List.getElem_map,List.getElem_range];simp only[Af,Bn]at I;simp only[Af,List.getElem_map,A5.canon,Hp,A5.A1,List.getElem_mapIdx]
  grind
 .simp only[A5.canon,Kg,A5.params]at E
  grind
def A5.Cn.subst{s:A5}(h:s.Cn)(v:List A3)(a:List Ty):(s.subst v a).Cn:=by
 refine⟨?_,λf E=>?_⟩
 .simp only[A5.subst,Bn];rw[<-h.fs];simp only[Af,Fo];rfl
 .simp only[A5.subst]at E;obtain⟨g,I,rfl⟩:=B1.1 E;exact h.ps g I
def D0j{n:Nat}(t:Ty):t.subst ((List.range n).map G0) (Dg n)=t:=by
 induction t using Ty.induct with
 |h t V =>
 rw[B0t];cases E:(if t.args=[]then Hw ((List.range n).map G0) (Dg n) t.name else none)with
 |none =>simp only;rw[J7 (g:=id) λu E=>V u E];cases t;simp[Ty.name,Ty.args,Ty.pos]
 |some u =>
  split at E
  .rename_i M;obtain⟨k,w,Z,L,I,O⟩:=A4j (B9o E).1 (args:=Dg n) (by simp[Dg]);rw[O]at E;simp only[B4]at E;subst E;have J:k<n:=by have:=(B5.1 I).1;simpa [Dg]using this
   have W:t.name=G0 k:=by rw[Db,Yo J]at L;simpa using L.symm
   have U:w=Ve k:=by unfold Dg at I;rw[Db,Yo J]at I;simpa using I.symm
   subst U;cases t;simp only[Ty.name,Ty.args,Ty.pos]at*;subst M;subst W;rfl
  grind
def A5.Cn.canon{s:A5}(h:s.Cn):s.canon=s:=by
 cases s with|mk L fs ps r q =>
 have I:=h.fs;have hp:=h.ps;simp only[]at I hp;simp only[A5.canon,A5.mk.injEq,Qi,Sh,Hp,Kg];rw[I];refine⟨?_,?_,D0j _⟩
 .refine M3 λi=>?_;rw[Wu];cases h:fs[i]? with
  |none=>rfl
  |some f =>
   have E:=(B5.1 h).1;have J:(Af fs)[i]?=some f.name:=by unfold Af;rw[Db,h];rfl
   rw[I,Db,Yo E]at J;simp only[Eu,B4]at J;simp only[Eu,D0j,A9 E,J]
 .refine M3 λi=>?_;rw[Wu];cases h:ps[i]? with
  |none=>rfl
  |some f =>have E:=(B5.1 h).1;simp only[Eu,D0j,A9 E,<-hp f (Br h)]
def F4w{p:Prog}{x:Ty}:∀s,s∈H8 p x->s.Cn:=by
 intro s hs;unfold H8 at hs;by_cases E:Ch p x 2=true
 .rw[A9 E]at hs;unfold Xx Io at hs;obtain⟨y,_,rfl⟩:=B1.1 hs;exact(B8n _).subst _ _
 grind
def C4t{p:Prog}{env:List Am}{x:Ty}:∀s,s∈Dk p env x->s.Cn:=by
 intro s hs;unfold Dk at hs;by_cases E:Ch p ((Cm env x).getD x) 2=true
 .rw[A9 E]at hs;exact F4w s hs
 .rw[A6 E]at hs;by_cases I:(Cm env x).isSome=true
  .grind
  .rw[A6 I]at hs;unfold Gt at hs;obtain⟨y,_,rfl⟩:=B1.1 hs;exact(B8n _).subst _ _
theorem C6b{u:Ty}{q:Int}:(Ty.mk u.name u.args q).er=u.er:=by rw[G9,G9 u];rfl
def C2s{p:Prog}{env:List Am}{x y:Ty}(h:Dd p env x y=true):∀w,w∈Dk p env y->∃s,s∈Dk p env x/\s.er=w.er:=by
 intro w E;unfold Dd at h;split at h
 .rw[Da,B6f]at h;obtain⟨s,hs,_,I⟩:=h w E;rw[(C4t s hs).canon,(C4t w E).canon]at I
  grind
 .rw[P1]at h;have:w.er∈(Dk p env x).map A5.er:=by rw[C1y h];exact B1.2 ⟨w,E,rfl⟩
  grind
def E6w{p:Prog}{env:List Am}{x y:Ty}(I:isIface p env y=true)(h:∀w,w∈Dk p env y->∃s,s∈Dk p env x/\s.er=w.er):Dd p env x y=true:=by unfold Dd;rw[A9 I,Da,B6f];intro w J;obtain⟨s,hs,E⟩:=h w J;exact⟨s,hs,by have:=Gk A5.name E;simpa [A5.er]using this,by rw[C2t,C2t,E]⟩
theorem Yp{p:Prog}{env:List Am}{x y:Ty}(h:x.er=y.er):Dd p env x y=true:=by
 by_cases E:isIface p env y=true
 .refine E6w E λw I=>?_;have:w.er∈(Dk p env x).map A5.er:=by rw[C1y h];exact B1.2 ⟨w,I,rfl⟩
  grind
 .unfold Dd;rw[A6 E,P1];exact h
theorem B8m{p:Prog}{env:List Am}{x y I E:Ty}(L:x.er=I.er)(J:y.er=E.er)(h:Dd p env x y=true):Dd p env I E=true :=
 A0o (A0o (Yp L.symm) h) (Yp J)
end Go.Abs
/- a program whose heads are in order: what substitution of types keeps: fields, method sets, implementing, well-formedness -/
namespace Go.Abs
open Go Go.Proofs
structure PW(p:Prog):Prop where
 name:∀n,kindOf p n≠0->¬Nr n
 bnd:∀x d,G2 p x=some d->∀f,f∈d.A1->f.bound.Lf λn=>n∈Af d.A1\/kindOf p n≠0
 fld:∀x d,G2 p x=some d->d.kind=1->∀f,f∈d.fields->f.type.Lf λn=>n∈Af d.A1\/kindOf p n≠0
 spc:∀x d,G2 p x=some d->d.kind=2->∀s,s∈d.sigs->s.Lf λn=>n∈Af s.A1\/(n∈Af d.A1\/kindOf p n≠0)
 mth:∀d,d∈p.decls->d.kind=3->d.sig.Lf λn=>n∈Af d.sig.A1\/(n∈d.vars\/kindOf p n≠0)
structure Sb(p:Prog)(env env':List Am)(v:List A3)(a:List Ty):Prop where
 names:v=Af env
 len:a.length=v.length
 fresh:∀n,n∈v->kindOf p n=0/\¬Nr n
 E8f:∀n,n∈Af env'->kindOf p n=0
 clean:∀u,u∈a->u.Lf λn=>¬Nr n
 iface:∀f,f∈env->isIface p env f.bound=true
 bnd:∀(i:Nat) (f:Am) (u:Ty),env[i]?=some f->a[i]?=some u->Dd p env' u (f.bound.subst v a)=true
def B6q{p:Prog}{env:List Am}{t:Ty}(h:∀n,n∈Af env->kindOf p n=0)(L:kindOf p t.name≠0):Cm env t=none:=by
 unfold Cm;rw[A9];unfold Ez;split
 .rcases M9 (λf:Am=>decide (f.name=t.name)) env with⟨I,_⟩|⟨j,x,_,E,J⟩
  .omega
  .have:=h x.name (B1.2 ⟨x,Br E,rfl⟩)
   grind
 .omega
def E4t{env:List Am}{t b:Ty}(h:Cm env t=some b):∃(k:Nat)(f:Am),env[k]?=some f/\b=f.bound/\t.args=[]/\Dc t.name (Af env) 0=k/\f.name=t.name:=by
 unfold Cm at h;split at h
 .cases h
 .rename_i E;unfold Ez at h E;split at E
  .rename_i I;rw[A9 I]at h
   grind [B1v,E5k,Af]
  omega
def E1w{env:List Am}{t:Ty}(h:Cm env t=none)(I:t.args=[]):t.name∉Af env:=by
 intro M;unfold Cm Ez at h;have E:t.args.length=0:=by rw[I];rfl
 rw[A9 E,B1v]at h;rcases E5k env t.name with L|⟨k,f,O,U,J⟩
 .grind [A3h]
 .unfold Af at J
  grind
theorem Xy{p:Prog}{t:Ty}{k:Int}(h:Ch p t k=true):kindOf p t.name=k/\(Ey p t.name).length=t.args.length:=by grind [Ch]
def D4s{p:Prog}{t u:Ty}{k:Int}(h:Ch p t k=true)(E:u.name=t.name)(I:u.args.length=t.args.length):Ch p u k=true:=by grind [Ch]
section
variable {p:Prog} {env env':List Am} {v:List A3} {a:List Ty}
def Sb.node(sb:Sb p env env' v a){t:Ty}(h:Cm env t=none):t.subst v a=.mk t.name (t.args.map (Ty.subst v a)) t.pos :=
 Jd λE=>Pu (by rw[sb.names];exact E1w h E)
def Sb.E2m(sb:Sb p env env' v a):∀n,n∈Af env->kindOf p n=0:=λn E=>(sb.fresh n (by rw[sb.names];exact E)).1
def Sb.inst(sb:Sb p env env' v a){t:Ty}{k:Int}(L:k≠0)(h:Ch p t k=true):t.subst v a=.mk t.name (t.args.map (Ty.subst v a)) t.pos/\Ch p (t.subst v a) k=true/\Cm env t=none/\Cm env' (t.subst v a)=none:=by
 have J:=(Xy h).1;have I:=B6q (t:=t) sb.E2m (by omega);have E:=sb.node I;refine⟨E,?_,I,?_⟩
 .rw[E];exact D4s h rfl (by simp[F4])
 .rw[E];exact B6q sb.E8f (by rw[J2,J];exact L)
def Sb.D9s(sb:Sb p env env' v a){t:Ty}(h:isIface p env t=true):isIface p env' (t.subst v a)=true:=by
 unfold isIface at h |-;rw[Bc]at h |-;obtain⟨_,E,_,I⟩:=sb.inst (by decide) h.1
 grind
def Sb.var(sb:Sb p env env' v a){t b:Ty}(h:Cm env t=some b):∃(k:Nat)(f:Am)(u:Ty),env[k]?=some f/\b=f.bound/\t.args=[]/\a[k]?=some u/\t.subst v a=.mk u.name u.args t.pos:=by
 obtain⟨k,f,I,W,V,E,M⟩:=E4t h;have J:t.name∈v:=by rw[sb.names,<-M];exact B1.2 ⟨f,Br I,rfl⟩
 obtain⟨O,u,L,U,Z,g4⟩:=A4j J (args:=a) (by rw[sb.len];simp);have:O=k:=by rw[sb.names,E]at L;omega
 grind [T6]
def Sb.out(sb:Sb p env env' v a){n:A3}(h:Nr n\/kindOf p n≠0):n∉v:=λE=>by
 obtain⟨J,I⟩:=sb.fresh n E
 grind
def C6x(hp:PW p)(sb:Sb p env env' v a){t:Ty}(h:Ch p t 2=true):H8 p (t.subst v a)=(H8 p t).map (A5.subst v a):=by obtain⟨U,O,_,_⟩:=sb.inst (by decide) h;obtain⟨d,M,J,I⟩:=Qa (by decide) h;unfold H8;rw[A9 O,A9 h,U,J2,M,E1];unfold Xx Io;rw[F4,Fo];refine J7 λs hs=>?_;have L:s.1∈d.sigs:=Hh (Uv (Kc.1 hs).1);simp only[Function.comp];refine(E5x _ _ _ _ (by rw[<-I];simp[Af]) _ ?_).symm;refine D7g (hp.spc _ d M J s.1 L) (λn E=>?_) λn E=>.inr (sb.out (.inl E));exact E.imp_right λh=>sb.out (.inr h)
theorem F2h(hp:PW p)(sb:Sb p env env' v a){t:Ty}(h:Ch p t 1=true)(j:Nat):Gt p (t.subst v a) j=(Gt p t j).map (A5.subst v a):=by
 obtain⟨M,Z,_,_⟩:=sb.inst (by decide) h;have V:Ke p (t.subst v a)=Ke p t:=by funext d i;unfold Ke Lw;rw[Z,h,M,J2,F4,Bn]
 unfold Gt;rw[V,Fo,M,F4];refine J7 λs hs=>?_;obtain⟨U,L⟩:=Kc.1 hs;have J:s.1∈p.decls:=Hh (Uv U);unfold Ke at L;simp only[Bc,Da]at L;obtain⟨⟨W,E⟩,I⟩:=L;have O:s.1.vars.length=t.args.length:=by
  unfold Lw at I;rw[A9 h]at I;split at I
  .grind
  .omega
 simp only[Function.comp];refine(E5x _ _ _ _ (by omega) _ ?_).symm;refine D7g (hp.mth s.1 J W) (λn E=>?_) λn E=>.inr (sb.out (.inl E));exact E.imp_right λh=>sb.out (.inr h)
def D7r(hp:PW p)(sb:Sb p env env' v a){t:Ty}(h:Ch p t 1=true):Bh p (t.subst v a)=(Bh p t).map (Param.subst v a):=by obtain⟨U,O,_,_⟩:=sb.inst (by decide) h;obtain⟨d,J,I,E⟩:=Qa (by decide) h;unfold Bh;rw[A9 O,A9 h,U,J2,J,E1];unfold fieldsD;rw[F4,Fo];refine J7 λf M=>?_;simp only[Function.comp,Param.subst,Param.mk.injEq,Qi,Sh];refine(B0v _ _ _ _ (by rw[<-E];simp[Af]) _ ?_).symm;exact(hp.fld _ d J I f M).mono λn L=>L.imp_right λh=>sb.out (.inr h)
theorem C3c{p:Prog}{env:List Am}{t:Ty}(h:isIface p env t=true):Dk p env t=H8 p t:=by unfold isIface at h;rw[Bc]at h;unfold Dk;simp_all
theorem C3f{p:Prog}{env:List Am}{x y:Ty}(h:x.er=y.er){s:A5}(hs:s∈Dk p env x):∃E,E∈Dk p env y/\E.er=s.er:=by
 have:s.er∈(Dk p env y).map A5.er:=by rw[<-C1y h];exact B1.2 ⟨s,hs,rfl⟩
 grind
theorem D2m(hp:PW p)(sb:Sb p env env' v a){t:Ty}{s:A5}(hs:s∈Dk p env t):∃V,V∈Dk p env' (t.subst v a)/\V.er=(s.subst v a).er:=by
 cases M:Cm env t with
 |some b =>
  obtain⟨k,f,u,I,rfl,h3,Z,h5⟩:=sb.var M;have O:=sb.iface f (Br I);have W:=sb.D9s O;have E:=O;unfold isIface at E;rw[Bc]at E;have a0:s∈H8 p f.bound:=by unfold Dk at hs;rw[M,E1,A9 E.1]at hs;exact hs
  have a2:=C6x hp sb E.1;obtain⟨w,hw,a1⟩:=C2s (sb.bnd k f u I Z) (s.subst v a) (by grind [C3c])
  grind [C3f,C6b]
 |none =>
  have key:∀k,k≠0->Ch p t k=true->Cm env' (t.subst v a)=none:=λk hk h=>(sb.inst hk h).2.2.2;unfold Dk at hs;rw[M]at hs;simp only[Nh,Ky,I6,Fy]at hs;split at hs
  .rename_i J;have L:=key 2 (by decide) J;refine⟨s.subst v a,?_,rfl⟩;unfold Dk;rw[L,Nh,A9 (sb.inst (by decide) J).2.1,C6x hp sb J]
   grind
  .rename_i J;by_cases I:Ch p t 1=true
   .have L:=key 1 (by decide) I;refine⟨s.subst v a,?_,rfl⟩;have O:=(sb.inst (by decide) I).2.1;have U:¬Ch p (t.subst v a) 2=true:=λh=>by have:=(Xy h).1;grind [Xy]
    unfold Dk;rw[L,Nh,A6 U];simp only[Ky,I6,Fy]
    grind [F2h]
   grind [E4j]
def B7j(hp:PW p)(sb:Sb p env env' v a){t u:Ty}(h:Dd p env t u=true):Dd p env' (t.subst v a) (u.subst v a)=true:=by
 by_cases J:isIface p env u=true
 .have I:=sb.D9s J;refine E6w I λw L=>?_;have E:=J;unfold isIface at E;rw[Bc]at E;rw[C3c I,C6x hp sb E.1]at L;obtain⟨w0,O,rfl⟩:=B1.1 L;obtain⟨s,hs,M⟩:=C2s h w0 (by rw[C3c J];omega)
  grind [D2m,C9k]
 .unfold Dd at h;rw[A6 J,P1]at h
  grind [Yp,Hi]
end
def Wn{p:Prog}{env fs:List Am}{args:List Ty}:G4 p env fs args<0↔∀(i:Nat)(f:Am)(u:Ty),fs[i]?=some f->args[i]?=some u->Dd p env u (f.bound.subst (Af fs) args)=true:=by
 unfold G4;constructor
 .intro h i f u I L;rcases M9 (A0f p env fs args) (fs.zip args)with⟨_,E⟩|⟨j,z,J,_⟩
  .have:=E (f,u) (Br (by grind:(fs.zip args)[i]?=some (f,u)))
   grind [A0f]
  .omega
 grind [Tn,List.getElem?_of_mem,List.getElem?_zip_eq_some,A0f]
def C9a{p:Prog}{env:List Am}:∀{l:List Ty},Je p env l=none↔∀t,t∈l->Bt p env t=none
 |[]=>by simp[Je]
 |t::l=>by
  rw[Je];cases h:Bt p env t with
  |some q=>simp[h]
  |none=>simp only[C9a (l:=l),Aw,forall_eq_or_imp,h,Qi]
def A9u{p:Prog}{env:List Am}{t:Ty}:Bt p env t=none↔(Cm env t).isSome=true\/(kindOf p t.name≠0/\(Ey p t.name).length=t.args.length/\(∀u,u∈t.args->Bt p env u=none)/\G4 p env (Ey p t.name) t.args<0):=by
 rw[D0z];by_cases I:(Cm env t).isSome=true
 .grind
 rw[A6 I];by_cases E:kindOf p t.name=0\/(Ey p t.name).length≠t.args.length
 .grind
 rw[A6 E];obtain⟨L,J⟩:=Uh.1 E;rw[<-C9a]
 grind
def A0r{p:Prog}{env:List Am}{t:Ty}(h:Bt p env t=none):t.Lf λn=>n∈Af env\/kindOf p n≠0:=by
 induction t using Ty.induct with|_ t U=>?_
 rcases A9u.1 h with E|⟨J,_,L,_⟩
 .obtain⟨b,E⟩:=Ux.1 E;obtain⟨k,f,M,_,V,_,O⟩:=E4t E;exact .of (λ_=>.inl (by rw[<-O];exact B1.2 ⟨f,Br M,rfl⟩)) (by grind)
 .exact .of (λ_=>.inr J) λu I=>U u I (L u I)
theorem B1w{p:Prog}{env:List Am}{t:Ty}:∀{u:Ty},t.er=u.er->Bt p env t=none->Bt p env u=none:=by
 induction t using Ty.induct with|_ t ih=>?_
 intro u V h;obtain⟨Z,U,O⟩:=A7w V;rw[A9u]at h |-;rw[<-C1h V];refine h.imp_right λ⟨h1,h2,h3,L⟩=>⟨by grind,by grind,λw I=>?_,?_⟩
 .obtain⟨i,W⟩:=Hz I;have E:i<t.args.length:=by rw[O];exact(B5.1 W).1
  have J:t.args[i]?=some t.args[i]:=B8 E;have:(t.args.map Ty.er)[i]?=(u.args.map Ty.er)[i]?:=by rw[U]
  grind
 .rw[Wn]at L |-;intro i f w M I;rw[<-Z]at M;have E:i<t.args.length:=by rw[O];exact(B5.1 I).1
  have J:t.args[i]?=some t.args[i]:=B8 E;have:(t.args.map Ty.er)[i]?=(u.args.map Ty.er)[i]?:=by rw[U]
  rw[Db,Db,J,I]at this;have h5:=L i f _ M J
  grind [B8m,Hi]
section
variable {p:Prog} {env env':List Am} {v:List A3} {a:List Ty}
def A8n{p:Prog}{n:A3}(h:kindOf p n≠0):∃d,G2 p n=some d/\d.kind=kindOf p n/\Ey p n=d.A1:=by grind [kindOf,Ey,G2]
def Zz(hp:PW p)(sb:Sb p env env' v a)(ha:∀u,u∈a->Bt p env' u=none){t:Ty}(h:Bt p env t=none):Bt p env' (t.subst v a)=none:=by
 induction t using Ty.induct with|_ t ih=>?_
 rcases A9u.1 h with E|⟨I,W,h3,O⟩
 .obtain⟨b,E⟩:=Ux.1 E;obtain⟨k,f,u,g1,_,g3,g4,g5⟩:=sb.var E
  grind [B1w,C6b]
 .have E:=B6q (t:=t) sb.E2m I;have Z:=sb.node E;rw[Z,A9u];refine .inr ⟨I,by grind [F4,J2],λw M=>?_,?_⟩
  .grind [F4]
  .rw[Wn]at O |-;rw[F4,J2];intro i f w J M;rw[Db,N9]at M;obtain⟨u,hu,rfl⟩:=M;have:=B7j hp sb (O i f u J hu);obtain⟨d,V,_,L⟩:=A8n I;rw[B0v]at this
   .omega
   .rw[<-W];simp[Af]
   .rw[L]at J |-;exact(hp.bnd _ d V f (Br J)).mono λn U=>U.imp_right λh=>sb.out (.inr h)
end
end Go.Abs
/- typing: inversion; what a substitution of types and of values keeps -/
namespace Go.Abs
open Go Go.Proofs
def C1f{c:C3}{x:Ty}:Hk c x=true↔Ch c.p x 1=true/\Cm c.env x=none:=by
 unfold Hk;have:(Cm c.env x=none)↔Ez c.env x<0:=by
  unfold Cm;constructor
  .intro h;refine Ai9 λE=>?_;rw[A6 E]at h;obtain⟨f,I,_⟩:=A6b E;rw[I]at h;cases h
  .intro h;rw[A9 h]
 rw[this,Bc,Da];exact And.comm
def Xv(c:C3)(E:List Ty)(es:List Ex):Prop:=E.length=es.length/\∀(i:Nat)(w:Ty)(k:Ex),E[i]?=some w->es[i]?=some k->∃K,Bw c k=(K,none)/\Dd c.p c.env K w=true
def B3n{c:C3}:∀(M:List Ty)(es:List Ex),M.length=es.length->(Ko c M es (es.map (Bw c))=none↔∀(i:Nat)(w:Ty)(k:Ex),M[i]?=some w->es[i]?=some k->∃K,Bw c k=(K,none)/\Dd c.p c.env K w=true)
 |[],[],_=>by simp[Ko]
 |[],_::_,h=>by simp at h
 |_::_,[],h=>by simp at h
 |w::M,e::es,h=>by
  have Z:=B3n (c:=c) M es (by simpa using h);rw[Ck,Ko];have W:Wp c w e (Bw c e)=none↔∃K,Bw c e=(K,none)/\Dd c.p c.env K w=true:=by
   unfold Wp;obtain⟨t,o⟩:=Bw c e;cases o with
   |some q=>simp
   |none =>
    simp only[Eo,Sh];constructor
    .intro h;split at h
     .rename_i U;exact⟨t,rfl,U⟩
     .cases h
    .rintro⟨K,rfl,U⟩;rw[A9 U]
  constructor
  .intro O i w' V J L;cases I:Wp c w e (Bw c e)with
   |some q=>rw[I]at O;cases O
   |none =>
    rw[I]at O;cases i with
    |zero=>simp only[Qt,B4]at J L;subst J;subst L;exact W.1 I
    |succ i=>exact Z.1 O i w' V (by simpa using J) (by simpa using L)
  .intro E;rw[W.2 (E 0 w e rfl rfl)];exact Z.2 λi w' V J L=>E (i+1) w' V (by simpa using J) (by simpa using L)
def C0v{o:Option Int}{t u:Ty}:Yb o t=(u,none)↔o=none/\u=t:=by
 unfold Yb;cases o with
 |some q=>simp[Fc]
 |none=>simp[eq_comm]
def A1x{n:Int}{t:Ty}:Fc n=(t,none)↔False:=by simp[Fc]
def A7k{c:C3}{e:Ex}{x:Ty}{s:A5}:Ly c e x=.inr s↔s∈Dk c.p c.env x/\s.name=e.name/\s.A1.length=e.targs.length/\(∀t,t∈e.targs->Bt c.p c.env t=none)/\G4 c.p c.env s.A1 e.targs<0/\e.kids.length=s.params.length+1:=by
 have E:∀I:A5,(if Gj (D8 c.p c.env x) e.name<0\/I.A1.length≠e.targs.length then(.inl e.pos:Int ⊕ A5)else
  match Je c.p c.env e.targs with
  |some q=>.inl q
  |none=>if 0<=G4 c.p c.env I.A1 e.targs then .inl ((e.targs[(G4 c.p c.env I.A1 e.targs).toNat]?).getD default).pos else
   if e.kids.length≠I.params.length+1 then .inl e.pos else .inr I)=.inr s↔0<=Gj (D8 c.p c.env x) e.name/\I=s/\s.A1.length=e.targs.length/\(∀t,t∈e.targs->Bt c.p c.env t=none)/\G4 c.p c.env s.A1 e.targs<0/\e.kids.length=s.params.length+1:=by
  intro I;rw[<-C9a];by_cases h1:Gj (D8 c.p c.env x) e.name<0\/I.A1.length≠e.targs.length
  .rw[A9 h1];simp only[reduceCtorEq,false_iff];rintro⟨L,rfl,J,_⟩;rcases h1 with h1|h1
   .omega
   .exact h1 J
  rw[A6 h1];obtain⟨L,J⟩:=Uh.1 h1;have J:=Ai9 J;cases hL:Je c.p c.env e.targs with
  |some q=>simp
  |none =>
   simp only;by_cases Z:0<=G4 c.p c.env I.A1 e.targs
   .rw[A9 Z];simp only[reduceCtorEq,false_iff];rintro⟨_,rfl,_,_,O,_⟩;omega
   rw[A6 Z];by_cases O:e.kids.length≠I.params.length+1
   .rw[A9 O];simp only[reduceCtorEq,false_iff];rintro⟨_,rfl,_,_,_,h6⟩;exact O h6
   rw[A6 O];constructor
   .intro h;cases h;exact⟨by omega,rfl,J,trivial,by omega,Ai9 O⟩
   .rintro⟨_,rfl,_⟩;rfl
 unfold Ly;rcases M9 (λs:A5=>decide (s.name=e.name)) (D8 c.p c.env x)with⟨h1,L⟩|⟨j,y,h1,L,J⟩
 .have V:Gj (D8 c.p c.env x) e.name = -1:=h1;constructor
  .intro h;split at h
   .cases h
   .exact absurd ((E _).1 h).1 (by omega)
  .rintro⟨W,U,_⟩;have:=L s (Zq.2 W);simp[U]at this
 .have V:Gj (D8 c.p c.env x) e.name=j:=h1;rw[V,Hs,L];simp only;rw[<-V];refine(E y).trans ?_;have hy:=Br L;have M:y.name=e.name:=by simpa using J
  constructor
  .rintro⟨_,rfl,g⟩;exact⟨Zq.1 hy,M,g⟩
  .rintro⟨W,U,g⟩;exact⟨by omega,B3e (D5i _ _ _) hy (Zq.2 W) (M.trans U.symm),g⟩
def C5f{α:Type}(l:List Param)(E:A3)(F:Param->α)(d:α)(y:α)(O:y≠d) :
  ((match l[(G7 l E).toNat]? with|some f=>if G7 l E<0 then d else F f|none=>d)=y)↔∃(k:Nat) (f:Param),G7 l E=k/\l[k]?=some f/\F f=y:=by
 rcases M9 (λf:Param=>decide (f.name=E)) l with⟨L,I⟩|⟨j,x,L,I,V⟩
 .have J:G7 l E = -1:=L;rw[J];constructor
  .intro h;split at h <;> exact absurd h.symm O
  .rintro⟨k,f,h,_⟩;omega
 .have J:G7 l E=j:=L;rw[J,Hs,I];simp only;rw[A6 (by omega)];constructor
  .intro h;exact⟨j,x,rfl,I,h⟩
  .rintro⟨k,f,W,M,U⟩;have:k=j:=by omega
   subst this;rw[I]at M;cases M;exact U
def N5{c:C3}{e:Ex}{t:Ty}:Bw c e=(t,none) ↔
  (e.kind=1/\∃(k:Nat) (f:Param),G7 c.vars e.name=k/\c.vars[k]?=some f/\t=f.type) \/
  (e.kind=3/\Bt c.p c.env e.type=none/\Hk c e.type=true/\Xv c ((Bh c.p e.type).map (·.type)) e.kids/\t=e.type) \/
  ∃(v:Ex) (vs:List Ex) (x:Ty),e.kids=v::vs/\Bw c v=(x,none) /\
   ((e.kind=2/\∃s,Ly c e x=.inr s/\Xv c (Tf s e.targs) vs/\t=s.result.subst (Af s.A1) e.targs) \/
    (e.kind=4/\Hk c x=true/\∃(k:Nat) (f:Param),G7 (Bh c.p x) e.name=k/\(Bh c.p x)[k]?=some f/\t=f.type) \/
    (e.kind=5/\Bt c.p c.env e.type=none/\(c.strict=true->T0 c x e.type=true)/\t=e.type)):=by
 rw[A9d];unfold P4;by_cases k1:e.kind=1
 .rw[A9 k1];unfold Wv;refine(C5f c.vars e.name (λf=>(f.type,(none:Option Int))) (Fc e.pos) (t,none) (by simp[Fc])).trans ?_;constructor
  .rintro⟨k,f,I,E,J⟩;exact .inl ⟨k1,k,f,I,E,by simpa using J.symm⟩
  .rintro(⟨_,k,f,I,E,J⟩|⟨h,_⟩|⟨_,_,_,_,_,h|h|h⟩)
   .exact⟨k,f,I,E,by rw[J]⟩
   all_goals omega
 rw[A6 k1];by_cases k3:e.kind=3
 .rw[A9 k3];unfold X5;constructor
  .intro h;split at h
   .exact(A1x.1 h).elim
   .rename_i O;split at h
    .exact(A1x.1 h).elim
    .rename_i hs;obtain⟨I,E⟩:=C0v.1 h;have a1:Hk c e.type=true:=by cases hh:Hk c e.type with|true=>rfl|false=>exact absurd (.inl hh) hs
     have V:(Bh c.p e.type).length=e.kids.length:=Ai9 λhh=>hs (.inr hh);exact .inr (.inl ⟨k3,O,a1,⟨by simpa using V,(B3n _ _ (by simpa using V)).1 I⟩,E⟩)
  .rintro(⟨h,_⟩|⟨_,O,hs,U,rfl⟩|⟨_,_,_,_,_,h|h|h⟩)
   .omega
   .rw[O];simp only;have V:(Bh c.p e.type).length=e.kids.length:=by simpa using U.1
    rw[A6 (by rw[hs];simp[V])];exact C0v.2 ⟨(B3n _ _ U.1).2 U.2,rfl⟩
   all_goals omega
 rw[A6 k3];by_cases k2:e.kind≠2/\e.kind≠4/\e.kind≠5
 .rw[A9 k2];constructor
  .intro h;exact(A1x.1 h).elim
  .rintro(⟨h,_⟩|⟨h,_⟩|⟨_,_,_,_,_,h|h|h⟩) <;> omega
 rw[A6 k2];cases L:e.kids with
 |nil =>
  constructor
  .intro h;exact(A1x.1 h).elim
  .rintro(⟨h,_⟩|⟨h,_⟩|⟨_,_,_,h,_⟩)
   .omega
   .omega
   .cases h
 |cons v vs =>
  simp only[Ck];have Z:∀Q:Prop,((e.kind=1/\Q)\/(e.kind=3/\Bt c.p c.env e.type=none/\Hk c e.type=true/\Xv c ((Bh c.p e.type).map (·.type)) (v::vs)/\t=e.type)\/∃(v':Ex) (M:List Ex) (x:Ty),v::vs=v'::M/\Bw c v'=(x,none) /\
   ((e.kind=2/\∃s,Ly c e x=.inr s/\Xv c (Tf s e.targs) M/\t=s.result.subst (Af s.A1) e.targs) \/
    (e.kind=4/\Hk c x=true/\∃(k:Nat) (f:Param),G7 (Bh c.p x) e.name=k/\(Bh c.p x)[k]?=some f/\t=f.type) \/
    (e.kind=5/\Bt c.p c.env e.type=none/\(c.strict=true->T0 c x e.type=true)/\t=e.type)))↔∃x,Bw c v=(x,none) /\
   ((e.kind=2/\∃s,Ly c e x=.inr s/\Xv c (Tf s e.targs) vs/\t=s.result.subst (Af s.A1) e.targs) \/
    (e.kind=4/\Hk c x=true/\∃(k:Nat) (f:Param),G7 (Bh c.p x) e.name=k/\(Bh c.p x)[k]?=some f/\t=f.type) \/
    (e.kind=5/\Bt c.p c.env e.type=none/\(c.strict=true->T0 c x e.type=true)/\t=e.type)):=by
   intro Q;constructor
   .rintro(⟨h,_⟩|⟨h,_⟩|⟨v',M,x,I,E,J⟩)
    .omega
    .omega
    .cases I;exact⟨x,E,J⟩
   .rintro⟨x,E,J⟩;exact .inr (.inr ⟨v,vs,x,rfl,E,J⟩)
  rw[Z];rcases hv:Bw c v with⟨x,o⟩
  cases o with
  |some q =>simp only[A1x,false_iff];rintro⟨y,h,_⟩;cases h
  |none =>
   simp only;have hx:∀R:Ty->Prop,(∃y,(x,(none:Option Int))=(y,none)/\R y)↔R x:=λR=>⟨λ⟨y,h,r⟩=>by cases h;exact r,λr=>⟨x,rfl,r⟩⟩;rw[hx];by_cases e2:e.kind=2
   .rw[A9 e2];unfold W6;constructor
    .intro h;split at h
     .exact(A1x.1 h).elim
     .rename_i s hs;obtain⟨I,E⟩:=C0v.1 h;have V:=(A7k.1 hs).2.2.2.2.2;rw[L,C6]at V;rw[L]at I;have W:(Tf s e.targs).length=vs.length:=by unfold Tf;rw[Bn];omega
      exact .inl ⟨e2,s,hs,⟨W,(B3n _ _ W).1 I⟩,E⟩
    .rintro(⟨_,s,hs,U,rfl⟩|⟨h,_⟩|⟨h,_⟩)
     .rw[hs];simp only;rw[L];exact C0v.2 ⟨(B3n _ _ U.1).2 U.2,rfl⟩
     all_goals omega
   rw[A6 e2];by_cases e4:e.kind=4
   .rw[A9 e4];unfold Xb;constructor
    .intro h;split at h
     .exact(A1x.1 h).elim
     .rename_i hs;obtain⟨k,f,I,E,J⟩:=(C5f (Bh c.p x) e.name (λf=>(f.type,(none:Option Int))) (Fc e.pos) (t,none) (by simp[Fc])).1 h;exact .inr (.inl ⟨e4,by simpa using hs,k,f,I,E,by simpa using J.symm⟩)
    .rintro(⟨h,_⟩|⟨_,hs,k,f,I,E,J⟩|⟨h,_⟩)
     .omega
     .rw[A6 (by rw[hs];simp)];exact(C5f (Bh c.p x) e.name (λf=>(f.type,(none:Option Int))) (Fc e.pos) (t,none) (by simp[Fc])).2 ⟨k,f,I,E,by rw[J]⟩
     .omega
   rw[A6 e4];unfold Wb;constructor
   .intro h;split at h
    .exact(A1x.1 h).elim
    .rename_i O;split at h
     .exact(A1x.1 h).elim
     .rename_i hs;exact .inr (.inr ⟨by omega,O,λa0=>by cases hp:T0 c x e.type with|true=>rfl|false=>exact absurd ⟨a0,hp⟩ hs,by simpa using h.symm⟩)
   .rintro(⟨h,_⟩|⟨h,_⟩|⟨_,O,hs,rfl⟩)
    .omega
    .omega
    .rw[O];simp only;rw[A6];rintro⟨I,E⟩;rw[hs I]at E;cases E
def D0e{p:Prog}{x y:Ty}(h:x.er=y.er):(Bh p x).map Param.er=(Bh p y).map Param.er:=by
 obtain⟨I,E,_⟩:=A7w h;unfold Bh;rw[A8d h,I];split
 .unfold fieldsD;rw[Fo,Fo];refine J7 λf _=>?_;simp only[Function.comp,E4k,E]
 .rfl
def Vx{α β:Type}{f:α->β}{l m:List α}(h:l.map f=m.map f){i:Nat}{x:α}(I:l[i]?=some x):∃y,m[i]?=some y/\f y=f x:=by
 have:(l.map f)[i]?=(m.map f)[i]?:=by rw[h]
 rw[Db,Db,I]at this;cases E:m[i]? with
 |none=>rw[E]at this;cases this
 |some y=>rw[E]at this;exact⟨y,rfl,by simpa using this.symm⟩
def B3o{s E:A5}(h:E.er=s.er):E.name=s.name/\E.A1.map Am.er=s.A1.map Am.er/\E.params.map Param.er=s.params.map Param.er/\E.result.er=s.result.er:=by unfold A5.er at h;rw[A5.mk.injEq]at h;exact⟨h.1,h.2.1,h.2.2.1,h.2.2.2.1⟩
def G8q{p:Prog}{env:List Am}{x y:Ty}(I:Ch p y 1=true)(h:Dd p env x y=true):x.er=y.er:=by
 have J:¬isIface p env y=true:=λE=>by unfold isIface at E;rw[Bc]at E;have:=(Xy E.1).1;have:=(Xy I).1;omega
 unfold Dd at h;rw[A6 J,P1]at h;exact h
section
variable {p:Prog} {env env':List Am} {v:List A3} {a:List Ty}
def G2h(hp:PW p)(sb:Sb p env env' v a)(ha:∀u,u∈a->Bt p env' u=none){st:Bool}{vars I:List Param}{e L:Ex}{t:Ty}
  (hk:L.kind=e.kind)(hn:L.name=e.name)(ht:L.type=e.type.subst v a)(hg:L.targs=e.targs.map (Ty.subst v a))(hl:L.kids.length=e.kids.length)(h1:e.kind≠1)
  (h:Bw ⟨p,st,env,vars⟩ e=(t,none))
  (ih:∀(i:Nat) (k k':Ex) (K:Ty),e.kids[i]?=some k->L.kids[i]?=some k'->Bw ⟨p,st,env,vars⟩ k=(K,none)->∃K',Bw ⟨p,false,env',I⟩ k'=(K',none)/\Dd p env' K' (K.subst v a)=true) :
  ∃t',Bw ⟨p,false,env',I⟩ L=(t',none)/\Dd p env' t' (t.subst v a)=true:=by
 have kids:∀(V J:List Ty) (es U:List Ex) (off:Nat),Xv ⟨p,st,env,vars⟩ V es->es.length=U.length->J.length=V.length ->
   (∀(i:Nat) (k:Ex),es[i]?=some k->e.kids[i+off]?=some k)->(∀(i:Nat) (k:Ex),U[i]?=some k->L.kids[i+off]?=some k) ->
   (∀(i:Nat) (w w':Ty),V[i]?=some w->J[i]?=some w'->w'.er=(w.subst v a).er)->Xv ⟨p,false,env',I⟩ J U:=by
  intro V J es U off hK aj Z h1 h2 h3;refine⟨by rw[Z,hK.1,aj],λi w' k' M O=>?_⟩;have hi:i<V.length:=by rw[<-Z];exact(B5.1 M).1
  have hw:V[i]?=some V[i]:=B8 hi;have ae:i<es.length:=by rw[<-hK.1];exact hi
  have ab:es[i]?=some es[i]:=B8 ae;obtain⟨K,c1,c2⟩:=hK.2 i _ _ hw ab;obtain⟨K',d1,d2⟩:=ih (i+off) _ k' K (h1 i _ ab) (h2 i k' O) c1;exact⟨K',d1,A0o d2 (A0o (B7j hp sb c2) (Yp (h3 i _ w' hw M).symm))⟩
 rcases N5.1 h with⟨h,_⟩|⟨k3,hc,hs,hK,rfl⟩|⟨w,V,x,W,hx,a6⟩
 .exact absurd h h1
 .obtain⟨i1,i2⟩:=C1f.1 hs;obtain⟨_,j2,_,j4⟩:=sb.inst (by decide) i1;have hf:=D7r hp sb i1;refine⟨L.type,N5.2 (.inr (.inl ⟨by omega,?_,?_,?_,rfl⟩)),?_⟩
  .rw[ht];exact Zz hp sb ha hc
  .rw[ht];exact C1f.2 ⟨j2,j4⟩
  .refine kids _ _ _ _ 0 hK hl.symm ?_ (λi k h=>h) (λi k h=>h) ?_
   .rw[ht];show((Bh p (e.type.subst v a)).map (·.type)).length=((Bh p e.type).map (·.type)).length;rw[hf];simp
   .intro i y y' M O;rw[ht]at O;have O:((Bh p (e.type.subst v a)).map (·.type))[i]?=some y':=O;have M:((Bh p e.type).map (·.type))[i]?=some y:=M;rw[hf,Fo,Db,N9]at O;rw[Db,N9]at M;obtain⟨f,f1,rfl⟩:=M;obtain⟨f',f2,rfl⟩:=O;rw[f1]at f2;cases f2;rfl
  .rw[ht];exact C5j _ _ _
 .have a9:0<L.kids.length:=by rw[hl,W];simp
  cases E:L.kids with
  |nil=>rw[E]at a9;simp at a9
  |cons w' J =>
   have Z:J.length=V.length:=by rw[W,E]at hl;simpa using hl
   obtain⟨x',a4,aa⟩:=ih 0 w w' x (by rw[W];rfl) (by rw[E];rfl) hx;rcases a6 with⟨k2,s,hs,hK,rfl⟩|⟨k4,hs,k,f,a0,a3,rfl⟩|⟨k5,hc,_,rfl⟩
   .obtain⟨s1,s2,s3,s4,s5,s6⟩:=A7k.1 hs;simp only at s1 s2 s3 s4 s5 s6;obtain⟨r1,af,am⟩:=D2m hp sb s1;obtain⟨s',ac,ag⟩:=C2s aa r1 af;obtain⟨q1,q2,q3,q4⟩:=B3o (ag.trans am);have ap:=(C4t s s1).fs;have a1:∀n,n∈Af s.A1->Nr n:=λn hn=>by
     rw[ap]at hn;obtain⟨i,_,rfl⟩:=B1.1 hn;exact⟨i,rfl⟩
    have ai:Af s'.A1=Af s.A1:=by rw[<-A1g s'.A1,q2,A1g];simp only[A5.subst,Af,Fo];rfl
    have a2:∀(b b':Ty),b'.er=(b.subst v a).er->(b'.subst (Af s'.A1) L.targs).er=((b.subst (Af s.A1) e.targs).subst v a).er:=by intro b b' hb;rw[E8j (λn hn=>sb.out (.inl (a1 n hn))) (λu hu=>(sb.clean u hu).mono λn hn hm=>hn (a1 n hm)),Hi,Hi,hb,ai,hg]
    have ah:s'.A1.length=s.A1.length:=by have:=Gk List.length q2;simpa [A5.subst]using this
    have a7:s'.params.length=s.params.length:=by have:=Gk List.length q3;simpa [A5.subst]using this
    have a8:Ly ⟨p,false,env',I⟩ L x'=.inr s':=by
     rw[A7k];simp only;refine⟨ac,by rw[q1,hn];exact s2,by rw[ah,s3,hg,Bn],λu hu=>?_,?_,by rw[hl,a7];exact s6⟩
     .rw[hg]at hu;obtain⟨u0,ak,rfl⟩:=B1.1 hu;exact Zz hp sb ha (s4 u0 ak)
     .rw[Wn]at s5 |-;intro i f' u' f1 f2;obtain⟨g,M,O⟩:=Vx q2 f1;simp only[A5.subst]at M;rw[Db,N9]at M;obtain⟨f,f3,rfl⟩:=M;rw[hg,Db,N9]at f2;obtain⟨u,f4,rfl⟩:=f2;have hb:=Gk Am.bound O;exact A0o (B7j hp sb (s5 i f u f3 f4)) (Yp (a2 f.bound f'.bound hb.symm).symm)
    refine⟨_,N5.2 (.inr (.inr ⟨w',J,x',E,a4,.inl ⟨by omega,s',a8,?_,rfl⟩⟩)),?_⟩
    .refine kids _ _ _ _ 1 hK Z.symm (by simp[Tf,a7]) (λi k h=>by rw[W,Xo];exact h) (λi k h=>by rw[E,Xo];exact h) ?_;intro i y y' M O;unfold Tf at M O;rw[Db,N9]at M O;obtain⟨f,f1,rfl⟩:=M;obtain⟨f',f2,rfl⟩:=O;obtain⟨g,h1,h2⟩:=Vx q3 f2;simp only[A5.subst]at h1;rw[Db,f1]at h1;simp only[Eu,B4]at h1;subst h1;exact a2 _ _ (Gk Param.type h2).symm
    .exact Yp (a2 _ _ q4)
   .obtain⟨i1,i2⟩:=C1f.1 hs;obtain⟨_,j2,_,j4⟩:=sb.inst (by decide) i1;have a5:=G8q j2 aa;have a':(Bh p x').map Param.er=((Bh p x).map (Param.subst v a)).map Param.er:=by rw[<-D7r hp sb i1];exact D0e a5
    have ao:(Bh p x').map (·.name)=(Bh p x).map (·.name):=by have:=Gk (List.map Param.name) a';simp only[Fo]at this;exact this
    have ad:(((Bh p x).map (Param.subst v a)))[k]?=some (f.subst v a):=by have a3:(Bh p x)[k]?=some f:=a3;rw[Db,a3];rfl
    obtain⟨f',f1,f2⟩:=Vx a'.symm ad;refine⟨f'.type,N5.2 (.inr (.inr ⟨w',J,x',E,a4,.inr (.inl ⟨by omega,?_,k,f',?_,f1,rfl⟩)⟩)),?_⟩
    .exact C1f.2 ⟨by rw[A8d a5];exact j2,by simp only;rw[C1h a5];exact j4⟩
    .have a0:G7 (Bh p x) e.name=k:=a0;show G7 (Bh p x') L.name=k;unfold G7 at a0 |-;rw[B1v,ao,hn,<-B1v,a0]
    .exact Yp (Gk Param.type f2)
   .refine⟨L.type,N5.2 (.inr (.inr ⟨w',J,x',E,a4,.inr (.inr ⟨by omega,?_,(λh=>by cases h),rfl⟩)⟩)),?_⟩
    .rw[ht];exact Zz hp sb ha hc
    .rw[ht];exact C5j _ _ _
def Qq(v:List A3)(a:List Ty)(e:Ex):e.subst v a=.mk e.kind e.name (e.type.subst v a) (e.targs.map (Ty.subst v a)) (e.kids.map (Ex.subst v a)) e.pos:=by unfold Ex.subst;rw[A5f];cases e;rfl
def F8j(names:List A3)(E:List Ex)(e:Ex):e.Ri names E=B5r names E (e.V0 (e.kids.map (Ex.Ri names E))):=by unfold Ex.Ri;rw[A5f]
end
end Go.Abs
/- a step keeps the type of an expression, or makes it smaller -/
namespace Go.Abs
open Go Go.Proofs
def D9w(u:Nat):(Lib.decDigits u).foldl (λa b=>10*a+(b.toNat - 48)) 0=u:=by
 induction u using Nat.strongRecOn with|_ u E=>?_
 rw[Lib.decDigits];split
 .rename_i h;simp only[Jp,Q3];rw[UInt8.toNat_ofNat'];omega
 .rename_i h;rw[List.foldl_append,E (u / 10) (by omega)];simp only[Jp,Q3];rw[UInt8.toNat_ofNat'];omega
def F0t{i j:Nat}(h:G0 i=G0 j):i=j:=by unfold G0 Lib.itoa at h;simp only[Sj,Qi]at h;rw[A6 (by omega),A6 (by omega)]at h;have:=Gk (List.foldl (λa b=>10*a+(b.toNat - 48)) 0) h;rw[D9w,D9w]at this;omega
def E9v{n k:Nat}(h:k<n):Dc (G0 k) ((List.range n).map G0) 0=k:=by
 rcases A3h (G0 k) ((List.range n).map G0) 0 with⟨_,E⟩|⟨j,I,E⟩
 .exact absurd (B1.2 ⟨k,Aq9.2 h,rfl⟩) E
 .have J:j<n:=by have:=(B5.1 I).1;simpa using this
  rw[Db,Yo J]at I;have:=F0t (by simpa using I);rw[E,this];simp
def B0y{n:A3}(h:isName n=true):¬Nr n:=by
 rintro⟨i,rfl⟩;have E:cls (UInt8.toNat 36)≠1:=by decide
 unfold G0 isName at h;simp only[Bc,Da]at h;exact E h.1.1
def E6o{p:Prog}:∀{l pre:List Am},A2k p pre l=none->∀(i:Nat)(f:Am),l[i]?=some f->kindOf p f.name=0/\f.name∉Af pre/\f.name∉Af (l.take i)
 |[],_,_=>by simp
 |x::l,pre,h=>by
  intro i f I;rw[A2k]at h;split at h
  .cases h
  .rename_i J;obtain⟨L,O⟩:=Uh.1 J;cases i with
   |zero=>simp only[Qt,B4]at I;subst I;exact⟨Ai9 L,O,by simp[Af]⟩
   |succ i =>obtain⟨M,E,U⟩:=E6o h i f (by simpa using I);simp only[Af,Gg,D2,Uh,Ck,Hy,Ps]at E;refine⟨M,E.1,?_⟩;simp only[Ia,Af,Ck,Aw,Uh];exact⟨E.2,U⟩
def D4k{p:Prog}{all:List Am}:∀{l:List Am},A4e p all l=none->∀f,f∈l->Bt p all f.bound=none/\isIface p all f.bound=true
 |[],_=>by simp
 |x::l,h=>by
  rw[A4e]at h;intro f hf;split at h
  .cases h
  .rename_i I;split at h
   .rename_i E;rcases Aw.1 hf with rfl|hf
    .exact⟨I,E⟩
    .exact D4k h f hf
   .cases h
def A4r{p:Prog}{env l:List Am}(h:Zm p env l=none):(∀(i:Nat)(f:Am),l[i]?=some f->kindOf p f.name=0/\f.name∉Af env/\f.name∉Af (l.take i))/\∀f,f∈l->Bt p (env++l) f.bound=none/\isIface p (env++l) f.bound=true:=by
 unfold Zm at h;split at h
 .cases h
 .rename_i E;exact⟨E6o E,D4k h⟩
def C9z{p:Prog}{env:List Am}:∀{l:List Param} {pre:List A3},Vf p env pre l=none->∀f,f∈l->Bt p env f.type=none
 |[],_,_=>by simp
 |x::l,pre,h=>by
  rw[Vf]at h;intro f hf;split at h
  .cases h
  .split at h
   .cases h
   .rename_i E;rcases Aw.1 hf with rfl|hf
    .exact E
    .exact C9z h f hf
def A6e{p:Prog}{env:List Am}{s:A5}(h:Pe p env s=none):Zm p env s.A1=none/\(∀f,f∈s.params->Bt p (env++s.A1) f.type=none)/\Bt p (env++s.A1) s.result=none:=by
 unfold Pe at h;split at h
 .cases h
 .rename_i E;split at h
  .cases h
  .rename_i hp;exact⟨E,C9z hp,h⟩
def D4e{p:Prog}{env:List Am}:∀{l:List A5} {pre:List A3},Yn p env pre l=none->∀s,s∈l->Pe p env s=none
 |[],_,_=>by simp
 |x::l,pre,h=>by
  rw[Yn]at h;intro s hs;split at h
  .cases h
  .split at h
   .cases h
   .rename_i E;rcases Aw.1 hs with rfl|hs
    .exact E
    .exact D4e h s hs
def D1z{p:Prog}:∀{l pre:List A3},A0q p pre l=false->∀(i:Nat)(v:A3),l[i]?=some v->kindOf p v=0/\v∉pre/\v∉l.take i
 |[],_,_=>by simp
 |x::l,pre,h=>by
  intro i f I;rw[A0q,Uz,Rw]at h;obtain⟨J,M⟩:=Uh.1 h.1;cases i with
  |zero=>simp only[Qt,B4]at I;subst I;exact⟨Ai9 J,M,by simp⟩
  |succ i =>obtain⟨L,E,O⟩:=D1z h.2 i f (by simpa using I);simp only[D2,Uh,Ps]at E;refine⟨L,E.1,?_⟩;simp only[Ia,Aw,Uh];exact⟨E.2,O⟩
def HW(p:Prog):Prop:=∀(i:Nat)(d:Decl),p.decls[i]?=some d->Zj p i d=none
def B1r{p:Prog}{x:A3}{d:Decl}(h:G2 p x=some d):(d.kind=1\/d.kind=2)/\d.name=x/\d∈p.decls:=by unfold G2 at h;have E:=At7 h;have I:=Am6 h;unfold Decl.Jx at E;simp only[Bc,Yj,Da]at E;exact⟨E.1,E.2,I⟩
def A1p{p:Prog}(O:HW p){x:A3}{d:Decl}(h:G2 p x=some d):Zm p [] d.A1=none/\(d.kind=1->∀f,f∈d.fields->Bt p d.A1 f.type=none)/\(d.kind=2->∀s,s∈d.sigs->Pe p d.A1 s=none):=by
 obtain⟨J,U,I⟩:=B1r h;obtain⟨i,M⟩:=Hz I;have E:=O i d M;unfold Zj at E;rw[A9 J]at E;unfold B2v at E;split at E
 .cases E
 .split at E
  .cases E
  .rename_i L;refine⟨L,λk1=>?_,λk2=>?_⟩
   .rw[A9 k1]at E;split at E
    .cases E
    .rename_i hp;exact C9z hp
   .rw[A6 (by omega)]at E;exact D4e E
def C0h{p:Prog}(W:HW p){d:Decl}(L:d∈p.decls)(O:d.kind=3):kindOf p d.name=1/\d.vars.length=(Ey p d.name).length/\A0q p [] d.vars=false/\Pe p (Ga p d) d.sig=none:=by
 obtain⟨i,V⟩:=Hz L;have E:=W i d V;unfold Zj at E;rw[A6 (by omega),A9 O]at E;unfold B3p at E;split at E
 .cases E
 .rename_i I;obtain⟨I,U⟩:=Uh.1 I;split at E
  .cases E
  .rename_i M;split at E
   .cases E
   .cases J:Pe p (Ga p d) d.sig with
    |some q=>rw[J]at E;cases E
    |none=>exact⟨Ai9 I,Ai9 U,by simpa using M,rfl⟩
def E0y{p:Prog}{d:Decl}(h:d.vars.length=(Ey p d.name).length):Af (Ga p d)=d.vars:=by unfold Ga Af;rw[Fo];exact List.map_snd_zip (by omega)
def D6v{p:Prog}(hr:p.right=true){d:Decl}(J:d∈p.decls):isName d.name=true/\(∀v,v∈d.vars->isName v=true)/\(d.kind=3->∀f,f∈d.sig.A1->isName f.name=true):=by unfold Prog.right at hr;rw[Bc,Dr]at hr;have h:=hr.1 d J;unfold Decl.right at h;simp only[Bc,Dr]at h;refine⟨h.1,h.2.2.2.2.1,λL f I=>?_⟩;have E:=h.2.2.2.2.2;unfold Decl.A2y at E;rw[A9 L]at E;unfold A5.right Si at E;simp only[Bc,Dr]at E;exact(E.2.2.1.1.1.2 f I).1
def B1k{p:Prog}(hr:p.right=true)(U:HW p):PW p:=by
 refine⟨λn I=>?_,λx d J f E=>?_,λx d J M f E=>?_,λx d J M s hs=>?_,λd J M=>?_⟩
 .obtain⟨d,J,_,_⟩:=A8n I;obtain⟨_,O,L⟩:=B1r J;rw[<-O];exact B0y (D6v hr L).1
 .exact A0r (by have:=((A4r (A1p U J).1).2 f E).1;simpa using this)
 .exact A0r ((A1p U J).2.1 M f E)
 .obtain⟨W,O,L⟩:=A6e ((A1p U J).2.2 M s hs);have key:∀t:Ty,Bt p (d.A1++s.A1) t=none->t.Lf λn=>n∈Af s.A1\/(n∈Af d.A1\/kindOf p n≠0):=λt ht =>
   (A0r ht).mono λn I=>by
    unfold Af at I |-;rw[Gg,D2]at I;rcases I with(h|h)|h
    .exact .inr (.inl h)
    .exact .inl h
    .exact .inr (.inr h)
  exact⟨λf E=>key _ ((A4r W).2 f E).1,λf E=>key _ (O f E),key _ L⟩
 .obtain⟨_,Z,_,g4⟩:=C0h U J M;obtain⟨W,O,L⟩:=A6e g4;have V:=E0y Z;have key:∀t:Ty,Bt p (Ga p d++d.sig.A1) t=none->t.Lf λn=>n∈Af d.sig.A1\/(n∈d.vars\/kindOf p n≠0):=λt ht =>
   (A0r ht).mono λn I=>by
    rw[<-V];unfold Af at I |-;rw[Gg,D2]at I;rcases I with(h|h)|h
    .exact .inr (.inl h)
    .exact .inl h
    .exact .inr (.inr h)
  exact⟨λf E=>key _ ((A4r W).2 f E).1,λf E=>key _ (O f E),key _ L⟩
def D3c{F:List A3}{vars E:List A3}{A B:List Ty}{n:Nat}{K:A3->Prop}(hF:F.length=n)(hB:B.length=n)(hA:vars.length=A.length)(J:E=(List.range n).map G0)
  (hd:∀m,m∈vars->m∉F)(hv:∀m,m∈vars->¬Nr m)(hK:∀m,K m->¬Nr m)(hc:∀u,u∈A->u.Lf λn=>¬Nr n)(b:Ty)(hb:b.Lf λm=>m∈F\/(m∈vars\/K m)) :
  ((b.subst F (Dg n)).subst vars A).subst E B=b.subst (vars++F) (A++B):=by
 have L:∀m,m∈E->Nr m:=λm V=>by rw[J]at V;obtain⟨i,_,rfl⟩:=B1.1 V;exact⟨i,rfl⟩
 induction b using Ty.induct with|_ b ih=>?_
 by_cases I:b.args=[]
 .have e0:∀v a,Hw v a b.name=none->b.subst v a=b:=λv a Z=>by
   rw[Jd λ_=>Z,I];cases b;simp only[Ty.args]at I;subst I;rfl
  by_cases M:b.name∈vars
  .have U:=hd _ M;obtain⟨k,u,_,_,W,g4⟩:=A4j M (args:=A) (by omega);have a0:=hc u (Br W);rw[e0 F _ (Pu U),T6 I g4,T6 (vars:=vars++F) (u:=u) I (by rw[B3k hA,A9 M];exact g4),E3d];exact .of (λh V=>a0.name h (L _ V)) λx hx=>(a0.arg x hx).mono λm V a2=>V (L _ a2)
  .by_cases U:b.name∈F
   .obtain⟨k,u,g1,g2,W,g4⟩:=A4j U (args:=Dg n) (by simp[Dg,hF]);have hk:k<n:=by have:=(B5.1 W).1;simpa [Dg]using this
    have hu:u=Ve k:=by unfold Dg at W;rw[Db,Yo hk]at W;simpa using W.symm
    subst hu;obtain⟨O,w,k1,k2,k3,k4⟩:=A4j U (args:=B) (by omega);have a3:O=k:=by omega
    subst a3;rw[T6 I g4];show Ty.subst E B (Ty.subst vars A (.mk (G0 O) [] b.pos))=_;have a1:Hw E B (G0 O)=some w:=by unfold Hw;rw[J,E9v hk,A9 (by omega),Hs];exact k3
    rw[Jd (t:=.mk (G0 O) [] b.pos) λ_=>Pu λZ=>hv _ Z ⟨O,rfl⟩];show Ty.subst E B (.mk (G0 O) [] b.pos)=_;rw[T6 (t:=.mk (G0 O) [] b.pos) (u:=w) rfl a1,T6 (vars:=vars++F) (u:=w) I (by rw[B3k hA,A6 M];exact k4)];rfl
   .have h3:K b.name:=by
     rcases hb.name I with h|h|h
     .exact absurd h U
     .exact absurd h M
     .exact h
    rw[e0 F _ (Pu U),e0 vars _ (Pu M),e0 E _ (Pu λZ=>hK _ h3 (L _ Z)),e0 (vars++F) _ (by rw[B3k hA,A6 M,Pu U])]
 .rw[Jd λh=>absurd h I,Jd (t:=.mk _ _ _) λh=>absurd h (by simpa [F4]using I),Jd (t:=.mk _ _ _) λh=>absurd h (by simpa [F4]using I),Jd (t:=b) λh=>absurd h I];simp only[F4,J2,mkQ,Fo]
  congr 1
  exact J7 λu hu=>ih u hu (hb.arg u hu)
abbrev G9n(p:Prog):C3:=⟨p,false,[],[]⟩
def E5o{p:Prog}{x:Ty}{s:A5}(hx:Ch p x 1=true)(hs:s∈Dk p [] x):∃d,d∈p.decls/\d.kind=3/\d.name=x.name/\d.vars.length=x.args.length/\s=d.sig.canon.subst d.vars x.args/\Kq p x s.name=some d:=by
 unfold Dk at hs;have hb:Cm [] x=none:=by unfold Cm Ez;split <;> simp[Dq]
 rw[hb]at hs;simp only[Nh,Ky,I6,Fy]at hs;have L:¬Ch p x 2=true:=λh=>by have:=(Xy h).1;have:=(Xy hx).1;omega
 rw[A6 L]at hs;unfold Gt at hs;rw[B1]at hs;obtain⟨⟨d,i⟩,V,rfl⟩:=hs;rw[Kc]at V;have W:=V.2;unfold Ke at W;simp only[Bc,Da]at W;obtain⟨⟨Z,hn⟩,I⟩:=W;have J:p.decls[i]?=some d:=by have:=V.1;rw[Dm]at this;obtain⟨_,L,U⟩:=List.mem_zipIdx this;simp only[As6]at U;rw[U];exact B8 _
 have E:P3 p x.name d.sig.name=(i:Int)/\d.vars.length=x.args.length:=by
  unfold Lw at I;rw[A9 hx]at I;split at I
  .rename_i d' M;split at I
   .rename_i hc;rw[I,Hs,J]at M;cases M;exact⟨I,hc.2⟩
   .omega
  .omega
 refine⟨d,Br J,Z,hn,E.2,rfl,?_⟩;show Kq p x d.sig.name=some d;unfold Kq;rw[A9 hx];have hf:p.decls.find? (Ka x.name d.sig.name)=some d:=by
  unfold P3 Dq at E;cases h:p.decls.findIdx? (Ka x.name d.sig.name)with
  |none=>rw[h]at E;have:=E.1;simp only at this;omega
  |some j =>
   rw[h]at E;have hj:j=i:=by have:=E.1;simp only at this;omega
   subst hj;obtain⟨h1,L,U⟩:=Ai3.1 h;have O:p.decls[j]=d:=by rw[B8 h1]at J;simpa using J
   rw[As9];refine⟨by rw[O]at L;exact L,j,h1,O,λk Z=>?_⟩;have:=U k Z;simpa using this
 rw[hf];simp only[E.2,Ae]
def G5u{l:List A3}(h:∀(i:Nat)(v:A3),l[i]?=some v->v∉l.take i){i:Nat}{v:A3}(E:l[i]?=some v):Dc v l 0=i:=by
 have:=Tt (p:=λx:A3=>decide (x=v)) E (by simp) λy I=>by simp only[Rw];rintro rfl;exact h i _ E I
 rw[<-this,B1v (λx:A3=>x) v l,List.map_id']
def F3e{vars:List A3}{args:List Ty}{n:A3}{k:Nat}{u:Ty}(h:Dc n vars 0=k)(E:args[k]?=some u):Hw vars args n=some u:=by unfold Hw;rw[h,A9 ⟨by omega,by have:=(B5.1 E).1;omega⟩,Hs];exact E
section
variable {p:Prog}
def G4u{p:Prog}{d:Decl}(I:∀(i:Nat)(v:A3),d.vars[i]?=some v->v∉d.vars.take i){F:List A3}{A B:List Ty}(L:d.vars.length=A.length):((E5 d.vars).map (Ty.subst (d.vars++F) (A++B))).map Ty.er=A.map Ty.er:=by
 refine M3 λi=>?_;simp only[E5,Fo,Db];cases E:d.vars[i]? with
 |none =>
  have:A[i]?=none:=by rw[List.getElem?_eq_none_iff]at E |-;omega
  rw[this];rfl
 |some v =>
  have M:=(B5.1 E).1;have J:A[i]?=some (A[i]'(by omega)):=B8 (by omega);rw[J];simp only[Eu,Function.comp]
  congr 1
  rw[T6 (t:=.mk v [] 0) (u:=A[i]'(by omega)) rfl]
  .exact C6b
  .rw[J2,B3k L,A9 (Br E)];exact F3e (G5u I E) J
structure E3z(p:Prog)(d:Decl)(x:Ty)(targs:List Ty):Prop where
 sb:Sb p (Ga p d++d.sig.A1) [] (d.vars++Af d.sig.A1) (x.args++targs)
 wf:∀u,u∈x.args++targs->Bt p [] u=none
 self:((B0r d).subst (d.vars++Af d.sig.A1) (x.args++targs)).er=x.er
 inst:∀b:Ty,Bt p (Ga p d++d.sig.A1) b=none->((b.subst (Af d.sig.A1) (Dg d.sig.A1.length)).subst d.vars x.args).subst (Af d.sig.canon.A1) targs=b.subst (d.vars++Af d.sig.A1) (x.args++targs)
def called(hr:p.right=true)(hw:HW p){d:Decl}(hd:d∈p.decls)(hk:d.kind=3){x:Ty}(hx:Bt p [] x=none)(hi:Ch p x 1=true)(I:d.name=x.name){targs:List Ty}(aa:d.sig.A1.length=targs.length)
  (ht:∀t,t∈targs->Bt p [] t=none)(hb:G4 p [] (d.sig.canon.subst d.vars x.args).A1 targs<0):E3z p d x targs:=by
 have hp:=B1k hr hw;obtain⟨m1,m2,m3,m4⟩:=C0h hw hd hk;obtain⟨s1,s2,s3⟩:=A6e m4;obtain⟨f1,f2⟩:=A4r s1;have V:=E0y m2;obtain⟨x1,x2⟩:=Xy hi;have Z:d.vars.length=x.args.length:=by rw[m2,I,x2]
 have hv:=D1z m3;obtain⟨r1,r2,r3⟩:=D6v hr hd;have ab:(∀u,u∈x.args->Bt p [] u=none)/\G4 p [] (Ey p x.name) x.args<0:=by
  rcases A9u.1 hx with h|⟨_,_,h3,h4⟩
  .have:Cm [] x=none:=by unfold Cm Ez;split <;> simp[Dq]
   rw[this]at h;cases h
  .exact⟨h3,h4⟩
 have ae:∀u,u∈x.args++targs->Bt p [] u=none:=λu M=>(D2.1 M).elim (ab.1 u) (ht u);have a7:∀u,u∈x.args++targs->u.Lf λn=>¬Nr n:=λu M=>(A0r (ae u M)).mono λn I=>I.elim (by simp[Af]) (hp.name n);have a5:(Af d.sig.A1).length=d.sig.A1.length:=by simp[Af]
 have a9:∀m,m∈d.vars->m∉Af d.sig.A1:=λm hm hf=>by obtain⟨f,a0,aj⟩:=B1.1 hf;obtain⟨i,hi⟩:=Hz a0;exact(f1 i f hi).2.1 (by rw[V,aj];exact hm)
 have a1:Af d.sig.canon.A1=(List.range d.sig.A1.length).map G0:=by rw[(B8n d.sig).fs];simp[A5.canon,Hp]
 have U:∀b:Ty,Bt p (Ga p d++d.sig.A1) b=none->((b.subst (Af d.sig.A1) (Dg d.sig.A1.length)).subst d.vars x.args).subst (Af d.sig.canon.A1) targs=b.subst (d.vars++Af d.sig.A1) (x.args++targs):=λb hb =>
  D3c (K:=λn=>kindOf p n≠0) a5 aa.symm Z a1 a9 (λm hm=>B0y (r2 m hm)) hp.name (λu M=>a7 u (At5 _ M)) b
   ((A0r hb).mono λn I=>by
    unfold Af at I;rw[Gg,D2]at I;rcases I with(h|h)|h
    .exact .inr (.inl (by rw[<-V];exact h))
    .exact .inl h
    .exact .inr (.inr h))
 have J:Af (Ga p d++d.sig.A1)=d.vars++Af d.sig.A1:=by rw[<-V];unfold Af;rw[Gg]
 have ad:kindOf p d.name≠0:=by omega
 obtain⟨W,a6,ak,O⟩:=A8n ad;obtain⟨t1,t2⟩:=A4r (A1p hw a6).1;have a4:=G4u (p:=p) (d:=d) (λi v h=>(hv i v h).2.2) (F:=Af d.sig.A1) (A:=x.args) (B:=targs) Z;have E:∀n,n∈d.vars++Af d.sig.A1->kindOf p n=0/\¬Nr n:=λn I=>by
  rcases D2.1 I with h|h
  .obtain⟨i,hi⟩:=Hz h;exact⟨(hv i n hi).1,B0y (r2 n h)⟩
  .obtain⟨f,a0,rfl⟩:=B1.1 h;obtain⟨i,hi⟩:=Hz a0;exact⟨(f1 i f hi).1,B0y (r3 hk f a0)⟩
 have a3:∀n,n∈Af (Ga p d++d.sig.A1)->kindOf p n=0:=λn I=>(E n (by rw[<-J];exact I)).1;have a':∀(l:Am),l∈W.A1->∀a:List Ty,(l.bound.subst (Af W.A1) a).name=l.bound.name/\(l.bound.subst (Af W.A1) a).args.length=l.bound.args.length/\Ch p l.bound 2=true:=by
  intro l hl a;have L:=(t2 l hl).2;simp only[Vt]at L;unfold isIface at L;rw[Bc]at L;have a2:Cm W.A1 l.bound=none:=by
   cases hh:Cm W.A1 l.bound with
   |none=>rfl
   |some y=>rw[hh]at L;simp at L
  have:l.bound.subst (Af W.A1) a=.mk l.bound.name (l.bound.args.map (Ty.subst (Af W.A1) a)) l.bound.pos:=Jd λha=>Pu (E1w a2 ha);rw[this];exact⟨rfl,by simp[F4],L.1⟩
 refine⟨⟨J.symm,by rw[Bz,Bz,a5,Z,aa],E,by simp[Af],a7,λf hf=>?_,λi f u hf M=>?_⟩,ae,?_,U⟩
 .rcases D2.1 hf with hf|hf
  .unfold Ga at hf;obtain⟨⟨l,w⟩,hz,rfl⟩:=B1.1 hf;have hl:l∈W.A1:=by rw[<-O];exact(As3 hz).1
   obtain⟨g1,g2,g3⟩:=a' l hl (E5 d.vars);unfold isIface;simp only;rw[O,Bc];refine⟨D4s g3 g1 g2,?_⟩;rw[B6q a3 (by rw[g1,(Xy g3).1];decide)];rfl
  .exact(f2 f hf).2
 .by_cases am:i<d.vars.length
  .have a8:(Ga p d).length=d.vars.length:=by have:=Gk List.length V;simpa [Af]using this
   rw[Ls (by omega)]at hf M;unfold Ga at hf;rw[Db,N9]at hf;obtain⟨⟨l,w⟩,hz,rfl⟩:=hf;rw[Am5]at hz;have ah:=Wn.1 ab.2 i l u (by rw[<-I];exact hz.1) M;refine A0o ah (Yp ?_);simp only;rw[<-I,O];have hl:l∈W.A1:=by rw[<-O];exact Br hz.1
   rw[B0v _ _ _ _ (by rw[<-O];simp[Af,E5];omega) _ ((hp.bnd _ W a6 l hl).mono λn I=>I.imp_right λh hm=>h (E n hm).1),Hi,Hi,a4]
  .have a8:(Ga p d).length=d.vars.length:=by have:=Gk List.length V;simpa [Af]using this
   rw[M5 (by omega)]at hf M;rw[a8]at hf;rw[<-Z]at M;have af:=Br hf;have ai:(d.sig.canon.subst d.vars x.args).A1[i - d.vars.length]?=some ⟨G0 (i - d.vars.length),(f.bound.subst (Af d.sig.A1) (Dg d.sig.A1.length)).subst d.vars x.args,f.pos⟩:=by have ac:=(B5.1 hf).1;simp only[A5.subst,A5.canon,Hp];rw[Db,Wu,hf];simp only[Eu,Am.subst,A9 ac]
   have:=Wn.1 hb _ _ u ai M;simp only at this;have ag:Af (d.sig.canon.subst d.vars x.args).A1=Af d.sig.canon.A1:=by simp only[A5.subst,Af,Fo];rfl
   rw[ag,U _ (f2 f af).1]at this;exact this
 .rw[B0t];have a2:(if(B0r d).args=[]then Hw (d.vars++Af d.sig.A1) (x.args++targs) (B0r d).name else none)=none:=by
   split
   .refine Pu λhm=>?_;have:=(E _ hm).1;exact ad this
   .rfl
  rw[a2];simp only[B0r,F4,J2,mkQ];rw[G9,G9 x];simp only[J2,F4];rw[a4,I]
end
end Go.Abs
/- no expression with a type is stuck -/
namespace Go.Abs
open Go Go.Proofs
end Go.Abs
/- what StepKeeps asks of a step, out of keeps -/
namespace Go.Abs
open Go Go.Proofs
end Go.Abs
/- a program that is well typed, strictly or not, is never stuck, however many steps it makes -/
namespace Go.Abs
open Go Go.Proofs
def D6t{c:C3}{I:List Ty}{es:List Ex}(M:∀x,x∈es->∀t,Bw c x=(t,none)->Bw { c with strict:=false } x=(t,none))(h:Xv c I es):Xv { c with strict:=false } I es :=
 ⟨h.1,λi w k O E=>by obtain⟨K,J,L⟩:=h.2 i w k O E;exact⟨K,M k (Br E) K J,L⟩⟩
def lax(c:C3):∀(e:Ex)(t:Ty),Bw c e=(t,none)->Bw { c with strict:=false } e=(t,none):=by
 intro e
 induction e using Ex.induct with|_ e O=>?_
 intro t h;refine N5.2 ?_;rcases N5.1 h with U|⟨V,h4,Z,M,J⟩|⟨v,vs,x,I,W,hc⟩
 .exact .inl U
 .exact .inr (.inl ⟨V,h4,Z,D6t O M,J⟩)
 .have E:∀y,y∈v::vs->∀t,Bw c y=(t,none)->Bw { c with strict:=false } y=(t,none):=λy L=>O y (by rw[I];exact L);refine .inr (.inr ⟨v,vs,x,I,E v (by simp) x W,?_⟩);rcases hc with⟨k2,s,hs,hK,ht⟩|h4|⟨k5,M,_,J⟩
  .exact .inl ⟨k2,s,hs,D6t (λy L=>E y (by simp[L])) hK,ht⟩
  .exact .inr (.inl h4)
  .exact .inr (.inr ⟨k5,M,(λh=>by cases h),J⟩)
def D6j:∀l:List Ex,(∀x,x∈l->x.One)->Ex.A4z l
 |[],_=>trivial
 |x::l,h=>by rw[Ex.A4z];exact⟨h x (by simp),D6j l λy E=>h y (by simp[E])⟩
def Ex.One.of{e:Ex}(h:D0a e)(E:∀x,x∈e.kids->x.One):e.One:=by cases e with|mk k n t a ks q=>rw[Ex.One];exact⟨h,D6j ks E⟩
def D4a{e:Ex}(f:Ex->Ex)(n:A3)(t:Ty)(a:List Ty)(q:Int)(h:e.One)(J:∀x,x∈e.kids->(f x).One):(Ex.mk e.kind n t a (e.kids.map f) q).One :=
 .of ⟨λI=>by show e.kids.map f=[];rw[h.out.1.1 I];rfl,λE=>by show(e.kids.map f).length=1;rw[Bn];exact h.out.1.2 E⟩ λx M=>by obtain⟨y,L,rfl⟩:=B1.1 M;exact J y L
def Ex.One.subst(v:List A3)(a:List Ty):∀{e:Ex},e.One->(e.subst v a).One:=by
 intro e
 induction e using Ex.induct with|_ e I=>?_
 intro h;rw[Qq];exact D4a _ _ _ _ _ h λy E=>I y E (h.out.2 y E)
def Ex.One.Ri{names:List A3}{E:List Ex}(O:∀x,x∈E->x.One):∀{e:Ex},e.One->(e.Ri names E).One:=by
 intro e
 induction e using Ex.induct with|_ e M=>?_
 intro h;rw[F8j];have I:(e.V0 (e.kids.map (Ex.Ri names E))).One:=D4a _ _ _ _ _ h λy J=>M y J (h.out.2 y J);unfold B5r;split
 .cases L:E[(Dc (e.V0 (e.kids.map (Ex.Ri names E))).name names 0).toNat]? with
  |none=>exact I
  |some u=>exact O u (Br L)
 .exact I
def A6q{p:Prog}(hr:p.right=true):(∀d,d∈p.decls->d.kind=3->d.body.One)/\p.main.One:=by unfold Prog.right at hr;simp only[Bc,Dr]at hr;refine⟨λd E I=>?_,Ex.E5b _ hr.2⟩;have:=hr.1 d E;unfold Decl.right Decl.A2y at this;rw[A9 I]at this;simp only[Bc]at this;exact Ex.E5b _ this.2.2.2.2.2.2.2.2
def D2n{p:Prog}{st:Bool}:∀{l:List Decl} {i:Nat},(A1m p st l i).bad=false->(Di ⟨p,st,[],[]⟩ p.main).2.bad=false
 |[],_,h=>h
 |x::l,i,h=>by
  rw[A1m]at h;cases E:Zj p i x with
  |some q=>rw[E]at h;cases h
  |none =>
   rw[E]at h;simp only at h;split at h
   .rename_i I;rw[I]at h;cases h
   .exact D2n h
end Go.Abs
