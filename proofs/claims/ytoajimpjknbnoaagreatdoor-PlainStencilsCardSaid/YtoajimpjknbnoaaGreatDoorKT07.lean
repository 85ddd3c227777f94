import Derived.Test.YtoajimpjknbnoaaGreatDoorKV05
set_option linter.all false
set_option maxHeartbeats 1000000
set_option maxRecDepth 100000
namespace Go.iA
open Go Go.Proofs
inductive Ty.Lf(S:A3->Prop):Ty->Prop where
 |mk (n:A3) (a:List Ty) (p:Int):(a=[]->S n)->(∀t,t∈a->Ty.Lf S t)->Ty.Lf S (.mk n a p)
variable {t:Ty}
theorem Ty.Lf.name{S:A3->Prop}(h:t.Lf S)(E:t.args=[]):S t.name:=by cases h with|mk n a p I J=>exact I E
def Ty.Lf.arg{S:A3->Prop}(h:t.Lf S):∀u,u∈t.args->u.Lf S:=by cases h with|mk n a p I E=>exact E
def Ty.Lf.of{S:A3->Prop}(I:t.args=[]->S t.name)(E:∀u,u∈t.args->u.Lf S):t.Lf S:=by cases t with|mk n a p=>exact .mk n a p I E
def Ty.Lf.mono{S T:A3->Prop}(h:t.Lf S)(hs:∀n,S n->T n):t.Lf T:=by
 induction t using Ty.induct with
 |h t I=>exact .of (λJ=>hs _ (h.name J)) λu E=>I u E (h.arg u E)
def I9(vars:List A3)(args:List Ty)(n:A3):Option Ty:=if 0<=Du n vars 0/\Du n vars 0<args.length then args[(Du n vars 0).toNat]? else none
def BK(vars:List A3)(args:List Ty)(t:Ty):t.subst vars args=match(if t.args=[]then I9 vars args t.name else none)with
  |some u=>.mk u.name u.args t.pos
  |none=>.mk t.name (t.args.map (Ty.subst vars args)) t.pos:=by rw[W1];unfold I9;grind
theorem Tg{vars:List A3}{args:List Ty}{t u:Ty}(E:t.args=[])(h:I9 vars args t.name=some u):t.subst vars args=.mk u.name u.args t.pos:=by rw[BK,A7 E,h]
theorem Jt{vars:List A3}{args:List Ty}(h:t.args=[]->I9 vars args t.name=none):t.subst vars args=.mk t.name (t.args.map (Ty.subst vars args)) t.pos:=by rw[BK];grind
variable {n:A3}
theorem Pv{vars:List A3}{args:List Ty}(h:n∉vars):I9 vars args n=none:=by unfold I9;rcases NF n vars 0 with⟨E,_⟩|⟨k,E,I⟩;grind;grind
theorem uE{vars:List A3}{args:List Ty}(h:n∈vars)(L:vars.length<=args.length):∃(k:Nat)(u:Ty),Du n vars 0=k/\vars[k]?=some n/\args[k]?=some u/\I9 vars args n=some u:=by
 unfold I9;rcases NF n vars 0 with⟨_,J⟩|⟨k,I,J⟩;grind
 .have O:=(Az.1 I).1;have E:k<args.length:=by omega
  refine⟨k,args[k],by omega,I,Bu E,?_⟩;grind
def ZN{vars:List A3}{args:List Ty}{u:Ty}(h:I9 vars args n=some u):n∈vars/\u∈args:=by
 have E:u∈args:=by unfold I9 at h;split at h;grind;cases h
 refine⟨KG λI=>?_,E⟩;grind[Pv]
theorem aW(f:Ty->Ty)(vars:List A3)(args:List Ty)(n:A3):I9 vars (args.map f) n=(I9 vars args n).map f:=by grind[I9]
theorem jm(v:List A3)(a:List Ty)(u:Ty)(q:Int):(Ty.mk u.name u.args q).subst v a=.mk (u.subst v a).name (u.subst v a).args q:=by
 by_cases E:u.args=[]
 .cases I:I9 v a u.name with
  |some w=>rw[Tg (t:=.mk u.name u.args q) (u:=w) E I,Tg E I];rfl
  |none=>rw[Jt (t:=.mk u.name u.args q) λ_=>I,Jt λ_=>I];rfl
 rw[Jt (t:=.mk u.name u.args q) λh=>absurd h E,Jt (t:=u) λh=>absurd h E];rfl
def UJ(I:List A3)(L:List Ty)(J:List A3)(V:List Ty)(hl:I.length<=L.length)(t:Ty)(h:t.Lf λn=>n∈I\/n∉J):(t.subst I L).subst J V=t.subst I (L.map (Ty.subst J V)):=by
 induction t using Ty.induct with
 |h t W =>
 by_cases E:t.args=[]
 .by_cases U:t.name∈I
  .grind[uE,Tg,aW,jm]
  .have Z:t.name∉J:=(h.name E).resolve_left U;have e1:∀a,t.subst I a=t:=λa=>by
    rw[Jt λ_=>Pv U,E];cases t;simp only[Ty.args]at E;subst E;rfl
   grind[Jt,Pv]
 .rw[Jt λh=>absurd h E,Jt (t:=t) λh=>absurd h E,Jt λh=>absurd h (by simpa [Ig]using E)];simp only[Ig,Rr,mkQ,Dn]
  congr 1
  exact Hb λu O=>W u O (h.arg u O)
def s9{v:List A3}{a:List Ty}(h:t.Lf λn=>n∉v):t.subst v a=t:=by
 induction t using Ty.induct with
 |h t I =>
 rw[Jt λJ=>Pv (h.name J)];rw[Hb (g:=id) λu E=>I u E (h.arg u E)];cases t;simp[Ty.name,Ty.args,Ty.pos]
def G6v{L:List A3}{V:List Ty}{I:List A3}{J:List Ty}(hd:∀n,n∈L->n∉I)(hc:∀u,u∈J->u.Lf λn=>n∉L)(t:Ty):(t.subst L V).subst I J=(t.subst I J).subst L (V.map (Ty.subst I J)):=by
 induction t using Ty.induct with
 |h t ih =>
 by_cases E:t.args=[]
 .have e0:∀v a,I9 v a t.name=none->t.subst v a=t:=λv a hh=>by
   rw[Jt λ_=>hh,E];cases t;simp only[Ty.args]at E;subst E;rfl
  cases U:I9 L V t.name with
  |some u =>have W:=hd _ (ZN U).1;rw[e0 I J (Pv W),Tg E U,Tg (u:=u.subst I J) E (by rw[aW,U];rfl),jm]
  |none =>
   rw[e0 L V U];cases Z:I9 I J t.name with
   |some w =>have O:=hc w (ZN Z).2;rw[Tg E Z,s9];exact .of (λh=>O.name h) λx hx=>O.arg x hx
   |none =>grind[aW]
 .rw[Jt λh=>absurd h E,Jt (t:=t) λh=>absurd h E,Jt λh=>absurd h (by simpa [Ig]using E),Jt λh=>absurd h (by simpa [Ig]using E)];simp only[Ig,Rr,mkQ,Dn];simp_all
def H4o{S T:A3->Prop}{v:List A3}{a:List Ty}(V:∀n,S n->I9 v a n=none->T n)(U:∀u,u∈a->u.Lf T){t:Ty}(h:t.Lf S):(t.subst v a).Lf T:=by
 induction t using Ty.induct with
 |h t O =>
 by_cases J:t.args=[]
 .cases E:I9 v a t.name with|some u =>rw[Tg J E];have:=U u (ZN E).2;exact .of (λI=>this.name I) λx L=>this.arg x L|none =>rw[Jt λ_=>E,J];exact .of (λ_=>V _ (h.name J) E) (by simp[Ig])
 .rw[Jt λI=>absurd I J];refine .of (λI=>absurd I (by simpa [Ig]using J)) λx L=>?_;simp only[Ig,Ap]at L;obtain⟨u,E,rfl⟩:=L;exact O u E (h.arg u E)
def mh(n:A3):∀(v:List A3)(i:Nat),Du n v i=if n∈v then Du n v 0+i else -1:=by
 intro v
 induction v with
 |nil=>intro i;rfl
 |cons x v E =>intro i;rw[Du,Du];grind
def H2s{α:Type}(p:α->Bool)(x:α)(l:List α):E3 p (x::l)=if p x=true then 0 else if E3 p l = -1 then -1 else E3 p l+1:=by unfold E3;grind
theorem AK{α:Type}(g:α->A3)(nm:A3):∀l:List α,E3 (λf=>decide (g f=nm)) l=Du nm (l.map g) 0
 |[]=>rfl
 |x::l=>by rw[H2s,AK g nm l,Cj,Du,mh nm (l.map g) (0+1)];by_cases J:nm=g x;grind;rw[A5 J,A5 (by grind)];rcases NF nm (l.map g) 0 with⟨E,I⟩|⟨k,E,I⟩;grind;grind
def CL{E I:List A3}{O Z:List Ty}(hl:E.length=O.length)(n:A3):I9 (E++I) (O++Z) n=if n∈E then I9 E O n else I9 I Z n:=by
 have J:∀(E:List A3) (i:Nat),Du n (E++I) i=if n∈E then Du n E i else Du n I (i+E.length):=by
  intro E
  induction E with
  |nil=>simp
  |cons x E ih =>intro i;rw[Kn,Du,Du,ih];grind
 have U:=mh n;unfold I9;rw[J E 0];by_cases L:n∈E;rw[A7 L,A7 L];obtain⟨k,u,h1,V,W,h4⟩:=uE L (args:=O) (by omega);grind;rw[A5 L,A5 L,U I (0+E.length)];by_cases V:n∈I;rw[A7 V];rcases NF n I 0 with⟨_,W⟩|⟨k,W,h4⟩;grind;grind;grind
def Ou{I O:List A3}{J Z:List Ty}(W:I.length=J.length){t:Ty}(h:t.Lf λn=>n∈I\/n∉O):t.subst (I++O) (J++Z)=t.subst I J:=by
 induction t using Ty.induct with
 |h t V =>
 rw[BK,BK I J];by_cases E:t.args=[]
 .rw[A7 E,A7 E,CL W,E];by_cases L:t.name∈I
  .grind
  .rw[A5 L,Pv L,Pv ((h.name E).resolve_left L)];rfl
 .rw[A5 E,A5 E];simp only;rw[Hb λu U=>V u U (h.arg u U)]
def A4.Lf(S:A3->Prop)(s:A4):Prop:=(∀f,f∈s.A1->f.bound.Lf S)/\(∀f,f∈s.params->f.type.Lf S)/\s.result.Lf S
variable {s:A4}
def A4.Lf.mono{S T:A3->Prop}(h:s.Lf S)(hs:∀n,S n->T n):s.Lf T:=⟨λf E=>(h.1 f E).mono hs,λf E=>(h.2.1 f E).mono hs,h.2.2.mono hs⟩
def Il(E:List A3)(O:List Ty)(L:List A3)(U:List Ty)(J:E.length<=O.length)(s:A4)(h:s.Lf λn=>n∈E\/n∉L):(s.subst E O).subst L U=s.subst E (O.map (Ty.subst L U)):=by simp only[A4.subst,Dn,A4.mk.injEq,Qx,Va];refine⟨Hb λf I=>?_,Hb λf I=>?_,UJ _ _ _ _ J _ h.2.2⟩;simp only[Function.comp,Aj.subst,UJ _ _ _ _ J _ (h.1 f I)];simp only[Function.comp,Param.subst,UJ _ _ _ _ J _ (h.2.1 f I)]
def P6(n:A3):Prop:=∃i,n=En i
theorem G4f(i:Nat){S:A3->Prop}(h:∀n,P6 n->S n):(Vu i).Lf S:=.of (λ_=>h _ ⟨i,rfl⟩) (by simp[Vu,Ig])
def H5a(n:Nat){S:A3->Prop}(h:∀n,P6 n->S n):∀u,u∈Dv n->u.Lf S:=λu E=>by grind[Dv,G4f]
def om{S T:A3->Prop}(h:s.Lf λn=>n∈Ad s.A1\/S n)(hs:∀n,S n->T n)(O:∀n,P6 n->T n):s.canon.Lf T:=by
 have key:∀t:Ty,t.Lf (λn=>n∈Ad s.A1\/S n)->(t.subst (Ad s.A1) (Dv s.A1.length)).Lf T:=λt ht =>
  H4o (S:=λn=>n∈Ad s.A1\/S n) (λn U J=>U.elim (λV=>by obtain⟨_,_,_,_,_,L⟩:=uE V (args:=Dv s.A1.length) (by simp[Ad,Dv]);rw[L]at J;cases J) (hs n)) (H5a _ O) ht
 refine⟨λf E=>?_,λf E=>?_,key _ h.2.2⟩;simp only[A4.canon,I2]at E;obtain⟨i,I,rfl⟩:=List.mem_mapIdx.1 E;exact key _ (h.1 _ (Gc I));simp only[A4.canon,J0]at E;obtain⟨i,I,rfl⟩:=List.mem_mapIdx.1 E;exact key _ (h.2.1 _ (Gc I))
structure A4.Cn(s:A4):Prop where
 fs:Ad s.A1=(List.range s.A1.length).map En
 ps:∀f,f∈s.params->f.name=[]
def FK(s:A4):s.canon.Cn:=by refine⟨?_,λf E=>?_⟩;refine List.ext_getElem (by simp[Ad,A4.canon,I2]) λi I J=>?_;simp only[List.getElem_map,List.getElem_range];simp only[Ad,B7]at I;simp only[Ad,List.getElem_map,A4.canon,I2,A4.A1,List.getElem_mapIdx];grind;simp only[A4.canon,J0,A4.params]at E;grind
def A4.Cn.subst(h:s.Cn)(v:List A3)(a:List Ty):(s.subst v a).Cn:=by refine⟨?_,λf E=>?_⟩;simp only[A4.subst,B7];rw[<-h.fs];simp only[Ad,Dn];rfl;simp only[A4.subst]at E;obtain⟨g,I,rfl⟩:=Ap.1 E;exact h.ps g I
def cV{n:Nat}(t:Ty):t.subst ((List.range n).map En) (Dv n)=t:=by
 induction t using Ty.induct with
 |h t U =>
 rw[BK];cases E:(if t.args=[]then I9 ((List.range n).map En) (Dv n) t.name else none)with
 |none =>simp only;rw[Hb (g:=id) λu E=>U u E];cases t;simp[Ty.name,Ty.args,Ty.pos]
 |some u =>
  split at E
  .rename_i W;obtain⟨k,w,h1,J,I,V⟩:=uE (ZN E).1 (args:=Dv n) (by simp[Dv]);rw[V]at E;simp only[B8]at E;subst E;have L:k<n:=by have:=(Az.1 I).1;simpa [Dv]using this
   have O:t.name=En k:=by rw[Df,HG L]at J;simpa using J.symm
   have Z:w=Vu k:=by unfold Dv at I;rw[Df,HG L]at I;simpa using I.symm
   subst Z;cases t;simp only[Ty.name,Ty.args,Ty.pos]at*;subst W;subst O;rfl
  grind
theorem A4.Cn.canon(h:s.Cn):s.canon=s:=by
 cases s with|mk nm fs ps r q =>
 have I:=h.fs;have hp:=h.ps;simp only[]at I hp;simp only[A4.canon,A4.mk.injEq,Qx,Va,I2,J0];rw[I];refine⟨?_,?_,cV _⟩
 .refine Kx λi=>?_;rw[Px];cases h:fs[i]? with
  |none=>rfl
  |some f =>
   have E:=(Az.1 h).1;have J:(Ad fs)[i]?=some f.name:=by unfold Ad;rw[Df,h];rfl
   rw[I,Df,HG E]at J;simp only[Em,B8]at J;simp only[Em,cV,A7 E,J]
 .refine Kx λi=>?_;rw[Px];cases h:ps[i]? with
  |none=>rfl
  |some f =>have E:=(Az.1 h).1;simp only[Em,cV,A7 E,<-hp f (Bs h)]
def xv{p:Prog}{x:Ty} :∀s,s∈Hj p x->s.Cn:=by intro s hs;unfold Hj at hs;by_cases E:B9 p x 2=true;rw[A7 E]at hs;unfold Xh Im at hs;obtain⟨y,_,rfl⟩:=Ap.1 hs;exact(FK _).subst _ _;grind
def iU{p:Prog}{env:List Aj}{x:Ty} :∀s,s∈D7 p env x->s.Cn:=by intro s hs;unfold D7 at hs;by_cases E:B9 p ((D3 env x).getD x) 2=true;rw[A7 E]at hs;exact xv s hs;rw[A5 E]at hs;by_cases I:(D3 env x).isSome=true;grind;rw[A5 I]at hs;unfold Hf at hs;obtain⟨y,_,rfl⟩:=Ap.1 hs;exact(FK _).subst _ _
theorem EO{u:Ty}{q:Int} :(Ty.mk u.name u.args q).er=u.er:=by rw[Gv,Gv u];rfl
def JJ{p:Prog}{env:List Aj}{x y:Ty}(h:Cr p env x y=true):∀w,w∈D7 p env y->∃s,s∈D7 p env x/\s.er=w.er:=by
 intro w E;unfold Cr at h;split at h;rw[Di,LH]at h;obtain⟨s,hs,_,I⟩:=h w E;rw[(iU s hs).canon,(iU w E).canon]at I;grind
 .rw[Ut]at h;have:w.er∈(D7 p env x).map A4.er:=by rw[JP h];exact Ap.2 ⟨w,E,rfl⟩
  grind
def fc{p:Prog}{env:List Aj}{x y:Ty}(I:isIface p env y=true)(h:∀w,w∈D7 p env y->∃s,s∈D7 p env x/\s.er=w.er):Cr p env x y=true:=by unfold Cr;rw[A7 I,Di,LH];intro w J;obtain⟨s,hs,E⟩:=h w J;exact⟨s,hs,by have:=F8 A4.name E;simpa [A4.er]using this,by rw[xO,xO,E]⟩
theorem Yw{p:Prog}{env:List Aj}{x y:Ty}(h:x.er=y.er):Cr p env x y=true:=by
 by_cases E:isIface p env y=true
 .refine fc E λw I=>?_;have:w.er∈(D7 p env x).map A4.er:=by rw[JP h];exact Ap.2 ⟨w,I,rfl⟩
  grind
 unfold Cr;rw[A5 E,Ut];exact h
theorem bV{p:Prog}{env:List Aj}{x y E I:Ty}(L:x.er=E.er)(J:y.er=I.er)(h:Cr p env x y=true):Cr p env E I=true :=Zw (Zw (Yw L.symm) h) (Yw J)
end Go.iA
namespace Go.iA
open Go Go.Proofs
structure PW(p:Prog):Prop where
 name:∀n,kindOf p n≠0->¬P6 n
 bnd:∀x d,Ec p x=some d->∀f,f∈d.A1->f.bound.Lf λn=>n∈Ad d.A1\/kindOf p n≠0
 fld:∀x d,Ec p x=some d->d.kind=1->∀f,f∈d.fields->f.type.Lf λn=>n∈Ad d.A1\/kindOf p n≠0
 spc:∀x d,Ec p x=some d->d.kind=2->∀s,s∈d.sigs->s.Lf λn=>n∈Ad s.A1\/(n∈Ad d.A1\/kindOf p n≠0)
 mth:∀d,d∈p.decls->d.kind=3->d.sig.Lf λn=>n∈Ad d.sig.A1\/(n∈d.vars\/kindOf p n≠0)
structure Sb(p:Prog)(env env':List Aj)(v:List A3)(a:List Ty):Prop where
 names:v=Ad env
 len:a.length=v.length
 fresh:∀n,n∈v->kindOf p n=0/\¬P6 n
 F8v:∀n,n∈Ad env'->kindOf p n=0
 clean:∀u,u∈a->u.Lf λn=>¬P6 n
 iface:∀f,f∈env->isIface p env f.bound=true
 bnd:∀(i:Nat) (f:Aj) (u:Ty),env[i]?=some f->a[i]?=some u->Cr p env' u (f.bound.subst v a)=true
def AL{p:Prog}{env:List Aj}{t:Ty}(h:∀n,n∈Ad env->kindOf p n=0)(L:kindOf p t.name≠0):D3 env t=none:=by unfold D3;rw[A7];unfold Fk;split;rcases My (λf:Aj=>decide (f.name=t.name)) env with⟨J,_⟩|⟨j,x,_,E,I⟩;omega;have:=h x.name (Ap.2 ⟨x,Bs E,rfl⟩);grind;omega
def fZ{env:List Aj}{t b:Ty}(h:D3 env t=some b):∃(k:Nat)(f:Aj),env[k]?=some f/\b=f.bound/\t.args=[]/\Du t.name (Ad env) 0=k/\f.name=t.name:=by unfold D3 at h;split at h;cases h;rename_i E;unfold Fk at h E;split at E;rename_i I;rw[A7 I]at h;grind[AK,w7,Ad];omega
def Fl{env:List Aj}{t:Ty}(h:D3 env t=none)(I:t.args=[]):t.name∉Ad env:=by
 intro V;unfold D3 Fk at h;have E:t.args.length=0:=by rw[I];rfl
 rw[A7 E,AK]at h;rcases w7 env t.name with U|⟨k,f,L,O,J⟩;grind[NF];unfold Ad at J;grind
theorem Pf{p:Prog}{t:Ty}{k:Int}(h:B9 p t k=true):kindOf p t.name=k/\(Dm p t.name).length=t.args.length:=by grind[B9]
def nk{p:Prog}{t u:Ty}{k:Int}(h:B9 p t k=true)(E:u.name=t.name)(I:u.args.length=t.args.length):B9 p u k=true:=by grind[B9]
section
variable {p:Prog} {env env':List Aj} {v:List A3} {a:List Ty}
def Sb.node(sb:Sb p env env' v a){t:Ty}(h:D3 env t=none):t.subst v a=.mk t.name (t.args.map (Ty.subst v a)) t.pos :=Jt λE=>Pv (by rw[sb.names];exact Fl h E)
def Sb.q0(sb:Sb p env env' v a):∀n,n∈Ad env->kindOf p n=0:=λn E=>(sb.fresh n (by rw[sb.names];exact E)).1
def Sb.inst(sb:Sb p env env' v a){t:Ty}{k:Int}(L:k≠0)(h:B9 p t k=true):t.subst v a=.mk t.name (t.args.map (Ty.subst v a)) t.pos/\B9 p (t.subst v a) k=true/\D3 env t=none/\D3 env' (t.subst v a)=none:=by have J:=(Pf h).1;have I:=AL (t:=t) sb.q0 (by omega);have E:=sb.node I;refine⟨E,?_,I,?_⟩;rw[E];exact nk h rfl (by simp[Ig]);rw[E];exact AL sb.F8v (by rw[Rr,J];exact L)
def Sb.od(sb:Sb p env env' v a){t:Ty}(h:isIface p env t=true):isIface p env' (t.subst v a)=true:=by
 unfold isIface at h |-;rw[Bh]at h |-;obtain⟨_,E,_,I⟩:=sb.inst (by decide) h.1
 grind
def Sb.var(sb:Sb p env env' v a){t b:Ty}(h:D3 env t=some b):∃(k:Nat)(f:Aj)(u:Ty),env[k]?=some f/\b=f.bound/\t.args=[]/\a[k]?=some u/\t.subst v a=.mk u.name u.args t.pos:=by
 obtain⟨k,f,O,W,Z,I,E⟩:=fZ h;have U:t.name∈v:=by rw[sb.names,<-E];exact Ap.2 ⟨f,Bs O,rfl⟩
 obtain⟨L,u,J,g2,V,g4⟩:=uE U (args:=a) (by rw[sb.len];simp);have:L=k:=by rw[sb.names,I]at J;omega
 grind[Tg]
def Sb.out(sb:Sb p env env' v a){n:A3}(h:P6 n\/kindOf p n≠0):n∉v:=λE=>by obtain⟨I,J⟩:=sb.fresh n E;grind
def uW(hp:PW p)(sb:Sb p env env' v a){t:Ty}(h:B9 p t 2=true):Hj p (t.subst v a)=(Hj p t).map (A4.subst v a):=by obtain⟨O,U,_,_⟩:=sb.inst (by decide) h;obtain⟨d,hd,J,E⟩:=La (by decide) h;unfold Hj;rw[A7 U,A7 h,O,Rr,hd,Dx];unfold Xh Im;rw[Ig,Dn];refine Hb λs hs=>?_;have I:s.1∈d.sigs:=Kv (Xr (Kp.1 hs).1);simp only[Function.comp];refine(Il _ _ _ _ (by rw[<-E];simp[Ad]) _ ?_).symm;refine om (hp.spc _ d hd J s.1 I) (λn L=>?_) λn L=>.inr (sb.out (.inl L));exact L.imp_right λh=>sb.out (.inr h)
theorem G6h(hp:PW p)(sb:Sb p env env' v a){t:Ty}(h:B9 p t 1=true)(j:Nat):Hf p (t.subst v a) j=(Hf p t j).map (A4.subst v a):=by
 obtain⟨O,W,_,_⟩:=sb.inst (by decide) h;have Z:Jm p (t.subst v a)=Jm p t:=by funext d i;unfold Jm Ld;rw[W,h,O,Rr,Ig,B7]
 unfold Hf;rw[Z,Dn,O,Ig];refine Hb λs hs=>?_;obtain⟨h1,J⟩:=Kp.1 hs;have I:s.1∈p.decls:=Kv (Xr h1);unfold Jm at J;simp only[Bh,Di]at J;obtain⟨⟨V,E⟩,L⟩:=J;have U:s.1.vars.length=t.args.length:=by unfold Ld at L;rw[A7 h]at L;split at L;grind;omega
 simp only[Function.comp];refine(Il _ _ _ _ (by omega) _ ?_).symm;refine om (hp.mth s.1 I V) (λn E=>?_) λn E=>.inr (sb.out (.inl E));exact E.imp_right λh=>sb.out (.inr h)
def xY(hp:PW p)(sb:Sb p env env' v a){t:Ty}(h:B9 p t 1=true):Bc p (t.subst v a)=(Bc p t).map (Param.subst v a):=by obtain⟨L,O,_,_⟩:=sb.inst (by decide) h;obtain⟨d,hd,I,E⟩:=La (by decide) h;unfold Bc;rw[A7 O,A7 h,L,Rr,hd,Dx];unfold fieldsD;rw[Ig,Dn];refine Hb λf J=>?_;simp only[Function.comp,Param.subst,Param.mk.injEq,Qx,Va];refine(UJ _ _ _ _ (by rw[<-E];simp[Ad]) _ ?_).symm;exact(hp.fld _ d hd I f J).mono λn U=>U.imp_right λh=>sb.out (.inr h)
theorem PL{p:Prog}{env:List Aj}{t:Ty}(h:isIface p env t=true):D7 p env t=Hj p t:=by unfold isIface at h;rw[Bh]at h;unfold D7;simp_all
theorem SP{p:Prog}{env:List Aj}{x y:Ty}(h:x.er=y.er){s:A4}(hs:s∈D7 p env x):∃E,E∈D7 p env y/\E.er=s.er:=by
 have:s.er∈(D7 p env y).map A4.er:=by rw[<-JP h];exact Ap.2 ⟨s,hs,rfl⟩
 grind
theorem eZ(hp:PW p)(sb:Sb p env env' v a){t:Ty}{s:A4}(hs:s∈D7 p env t):∃W,W∈D7 p env' (t.subst v a)/\W.er=(s.subst v a).er:=by
 cases O:D3 env t with
 |some b =>
  obtain⟨k,f,u,I,rfl,h3,Z,h5⟩:=sb.var O;have L:=sb.iface f (Bs I);have a1:=sb.od L;have E:=L;unfold isIface at E;rw[Bh]at E;have a2:s∈Hj p f.bound:=by unfold D7 at hs;rw[O,Dx,A7 E.1]at hs;exact hs
  have a0:=uW hp sb E.1;obtain⟨w,hw,a3⟩:=JJ (sb.bnd k f u I Z) (s.subst v a) (by grind[PL]);grind[SP,EO]
 |none =>
  have key:∀k,k≠0->B9 p t k=true->D3 env' (t.subst v a)=none:=λk hk h=>(sb.inst hk h).2.2.2;unfold D7 at hs;rw[O]at hs;simp only[jC,Uj,Iu,Gi]at hs;split at hs;rename_i J;have U:=key 2 (by decide) J;refine⟨s.subst v a,?_,rfl⟩;unfold D7;rw[U,jC,A7 (sb.inst (by decide) J).2.1,uW hp sb J];grind
  .rename_i J;by_cases I:B9 p t 1=true
   .have U:=key 1 (by decide) I;refine⟨s.subst v a,?_,rfl⟩;have L:=(sb.inst (by decide) I).2.1;have V:¬B9 p (t.subst v a) 2=true:=λh=>by have:=(Pf h).1;grind[Pf]
    unfold D7;rw[U,jC,A5 V];simp only[Uj,Iu,Gi];grind[G6h]
   grind[GY]
def SQ(hp:PW p)(sb:Sb p env env' v a){t u:Ty}(h:Cr p env t u=true):Cr p env' (t.subst v a) (u.subst v a)=true:=by by_cases J:isIface p env u=true;have I:=sb.od J;refine fc I λw L=>?_;have E:=J;unfold isIface at E;rw[Bh]at E;rw[PL I,uW hp sb E.1]at L;obtain⟨w0,O,rfl⟩:=Ap.1 L;obtain⟨s,hs,U⟩:=JJ h w0 (by rw[PL J];omega);grind[eZ,TV];unfold Cr at h;rw[A5 J,Ut]at h;grind[Yw,Gu]
end
def W4{p:Prog}{env fs:List Aj}{args:List Ty}:Hn p env fs args<0↔∀(i:Nat)(f:Aj)(u:Ty),fs[i]?=some f->args[i]?=some u->Cr p env u (f.bound.subst (Ad fs) args)=true:=by unfold Hn;constructor;intro h i f u I J;rcases My (CH p env fs args) (fs.zip args)with⟨_,E⟩|⟨j,z,L,_⟩;have:=E (f,u) (Bs (by grind:(fs.zip args)[i]?=some (f,u)));grind[CH];omega;grind[T5,List.getElem?_of_mem,List.getElem?_zip_eq_some,CH]
def xT{p:Prog}{env:List Aj}:∀{l:List Ty},P7 p env l=none↔∀t,t∈l->Br p env t=none
 |[]=>by simp[P7]
 |t::l=>by
  rw[P7];cases h:Br p env t with
  |some q=>simp[h]
  |none=>simp only[xT (l:=l),Ay,forall_eq_or_imp,h,Qx]
theorem zD{p:Prog}{env:List Aj}{t:Ty}:Br p env t=none↔(D3 env t).isSome=true\/(kindOf p t.name≠0/\(Dm p t.name).length=t.args.length/\(∀u,u∈t.args->Br p env u=none)/\Hn p env (Dm p t.name) t.args<0):=by rw[r6];by_cases I:(D3 env t).isSome=true;grind;rw[A5 I];by_cases E:kindOf p t.name=0\/(Dm p t.name).length≠t.args.length;grind;rw[A5 E];obtain⟨J,L⟩:=Yo.1 E;rw[<-xT];grind
def PD{p:Prog}{env:List Aj}{t:Ty}(h:Br p env t=none):t.Lf λn=>n∈Ad env\/kindOf p n≠0:=by induction t using Ty.induct with|_ t J=>?_;rcases zD.1 h with E|⟨V,_,O,_⟩;obtain⟨b,E⟩:=X3.1 E;obtain⟨k,f,L,_,W,_,U⟩:=fZ E;exact .of (λ_=>.inl (by rw[<-U];exact Ap.2 ⟨f,Bs L,rfl⟩)) (by grind);exact .of (λ_=>.inr V) λu I=>J u I (O u I)
theorem va{p:Prog}{env:List Aj}{t:Ty}:∀{u:Ty},t.er=u.er->Br p env t=none->Br p env u=none:=by
 induction t using Ty.induct with|_ t ih=>?_;intro u V h;obtain⟨Z,W,O⟩:=PH V;rw[zD]at h |-;rw[<-gP V];refine h.imp_right λ⟨h1,h2,h3,U⟩=>⟨by grind,by grind,λw I=>?_,?_⟩
 .obtain⟨i,hi⟩:=Lx I;have E:i<t.args.length:=by rw[O];exact(Az.1 hi).1
  have J:t.args[i]?=some t.args[i]:=Bu E;have:(t.args.map Ty.er)[i]?=(u.args.map Ty.er)[i]?:=by rw[W]
  grind
 .rw[W4]at U |-;intro i f w L I;rw[<-Z]at L;have E:i<t.args.length:=by rw[O];exact(Az.1 I).1
  have J:t.args[i]?=some t.args[i]:=Bu E;have:(t.args.map Ty.er)[i]?=(u.args.map Ty.er)[i]?:=by rw[W]
  rw[Df,Df,J,I]at this;have h5:=U i f _ L J;grind[bV,Gu]
section
variable {p:Prog} {env env':List Aj} {v:List A3} {a:List Ty}
def ZG{p:Prog}{n:A3}(h:kindOf p n≠0):∃d,Ec p n=some d/\d.kind=kindOf p n/\Dm p n=d.A1:=by grind[kindOf,Dm,Ec]
theorem kD(hp:PW p)(sb:Sb p env env' v a)(ha:∀u,u∈a->Br p env' u=none){t:Ty}(h:Br p env t=none):Br p env' (t.subst v a)=none:=by
 induction t using Ty.induct with|_ t ih=>?_;rcases zD.1 h with E|⟨O,V,h3,U⟩;obtain⟨b,E⟩:=X3.1 E;obtain⟨k,f,u,g1,_,g3,g4,g5⟩:=sb.var E;grind[va,EO]
 .have E:=AL (t:=t) sb.q0 O;have W:=sb.node E;rw[W,zD];refine .inr ⟨O,by grind[Ig,Rr],λw L=>?_,?_⟩;grind[Ig]
  .rw[W4]at U |-;rw[Ig,Rr];intro i f w I L;rw[Df,Jn]at L;obtain⟨u,hu,rfl⟩:=L;have:=SQ hp sb (U i f u I hu);obtain⟨d,hd,_,J⟩:=ZG O;rw[UJ]at this
   omega;rw[<-V];simp[Ad];rw[J]at I |-;exact(hp.bnd _ d hd f (Bs I)).mono λn Z=>Z.imp_right λh=>sb.out (.inr h)
end
theorem Z2{c:Cd}{x:Ty}:Kt c x=true↔B9 c.p x 1=true/\D3 c.env x=none:=by
 unfold Kt;have:(D3 c.env x=none)↔Fk c.env x<0:=by unfold D3;constructor;intro h;refine KG λE=>?_;rw[A5 E]at h;grind[MH];grind
 grind
def Si(c:Cd)(E:List Ty)(es:List Ex):Prop:=E.length=es.length/\∀(i:Nat)(w:Ty)(k:Ex),E[i]?=some w->es[i]?=some k->∃K,Dc c k=(K,none)/\Cr c.p c.env K w=true
def gM{c:Cd}:∀(I:List Ty)(es:List Ex),I.length=es.length->(Vr c I es (es.map (Dc c))=none↔∀(i:Nat)(w:Ty)(k:Ex),I[i]?=some w->es[i]?=some k->∃K,Dc c k=(K,none)/\Cr c.p c.env K w=true)
 |[],[],_=>by simp[Vr]
 |[],_::_,h=>by grind
 |_::_,[],h=>by grind
 |w::I,e::es,h=>by
  have L:=gM (c:=c) I es (by grind);rw[Cj,Vr];have J:dQ c w e (Dc c e)=none↔∃K,Dc c e=(K,none)/\Cr c.p c.env K w=true:=by
   unfold dQ;obtain⟨t,o⟩:=Dc c e;cases o with
   |some q=>simp
   |none =>simp
  constructor;grind;intro E;rw[J.2 (E 0 w e rfl rfl)];exact L.2 λi w' O V U=>E (i+1) w' O (by grind) (by grind)
def LQ{o:Option Int}{t u:Ty}:orI o t=(u,none)↔o=none/\u=t:=by
 unfold orI;cases o with
 |some q=>simp[Lt]
 |none=>grind
theorem dG{n:Int}{t:Ty}:Lt n=(t,none)↔False:=by simp[Lt]
theorem Wa{c:Cd}{e:Ex}{x:Ty}{s:A4}:Nh c e x=.inr s↔s∈D7 c.p c.env x/\s.name=e.name/\s.A1.length=e.targs.length/\(∀t,t∈e.targs->Br c.p c.env t=none)/\Hn c.p c.env s.A1 e.targs<0/\e.kids.length=s.params.length+1:=by
 have I:∀E:A4,(if Fo (C3 c.p c.env x) e.name<0\/E.A1.length≠e.targs.length then(.inl e.pos:Int ⊕ A4)else
  match P7 c.p c.env e.targs with
  |some q=>.inl q
  |none=>if 0<=Hn c.p c.env E.A1 e.targs then .inl ((e.targs[(Hn c.p c.env E.A1 e.targs).toNat]?).getD default).pos else
   if e.kids.length≠E.params.length+1 then .inl e.pos else .inr E)=.inr s↔0<=Fo (C3 c.p c.env x) e.name/\E=s/\s.A1.length=e.targs.length/\(∀t,t∈e.targs->Br c.p c.env t=none)/\Hn c.p c.env s.A1 e.targs<0/\e.kids.length=s.params.length+1:=by
  intro E;rw[<-xT];by_cases J:Fo (C3 c.p c.env x) e.name<0\/E.A1.length≠e.targs.length
  .grind
  rw[A5 J];obtain⟨L,O⟩:=Yo.1 J;have O:=KG O;cases hL:P7 c.p c.env e.targs with
  |some q=>simp
  |none =>grind
 unfold Nh;rcases My (λs:A4=>decide (s.name=e.name)) (C3 c.p c.env x)with⟨J,L⟩|⟨j,y,J,L,O⟩;grind[Fo,Mj]
 .have V:Fo (C3 c.p c.env x) e.name=j:=J;rw[V,Ic,L];simp only;rw[<-V];refine(I y).trans ?_;have hy:=Bs L;have U:y.name=e.name:=by simpa using O
  constructor;grind[Mj];rintro⟨W,Z,g⟩;exact⟨by omega,Yu (vM _ _ _) hy (Mj.2 W) (U.trans Z.symm),g⟩
def MZ{α:Type}(l:List Param)(nm:A3)(F:Param->α)(d:α)(y:α)(hd:y≠d) :((match l[(Gp l nm).toNat]? with|some f=>if Gp l nm<0 then d else F f|none=>d)=y)↔∃(k:Nat) (f:Param),Gp l nm=k/\l[k]?=some f/\F f=y:=by grind
theorem Jc{c:Cd}{e:Ex}{t:Ty}:Dc c e=(t,none) ↔
  (e.kind=1/\∃(k:Nat) (f:Param),Gp c.vars e.name=k/\c.vars[k]?=some f/\t=f.type) \/
  (e.kind=3/\Br c.p c.env e.type=none/\Kt c e.type=true/\Si c ((Bc c.p e.type).map (·.type)) e.kids/\t=e.type) \/
  ∃(v:Ex) (vs:List Ex) (x:Ty),e.kids=v::vs/\Dc c v=(x,none) /\ ((e.kind=2/\∃s,Nh c e x=.inr s/\Si c (Tu s e.targs) vs/\t=s.result.subst (Ad s.A1) e.targs) \/ (e.kind=4/\Kt c x=true/\∃(k:Nat) (f:Param),Gp (Bc c.p x) e.name=k/\(Bc c.p x)[k]?=some f/\t=f.type) \/ (e.kind=5/\Br c.p c.env e.type=none/\(c.strict=true->V7 c x e.type=true)/\t=e.type)):=by
 rw[aV];unfold iL;by_cases k1:e.kind=1
 .rw[A7 k1];unfold qP;refine(MZ c.vars e.name (λf=>(f.type,(none:Option Int))) (Lt e.pos) (t,none) (by simp[Lt])).trans ?_
  grind
 rw[A5 k1];by_cases k3:e.kind=3
 .rw[A7 k3];unfold gO;constructor
  .intro h;split at h
   .exact(dG.1 h).elim
   .rename_i Z;split at h
    .exact(dG.1 h).elim
    .rename_i hs;obtain⟨J,V⟩:=LQ.1 h;have a0:Kt c e.type=true:=by cases hh:Kt c e.type with|true=>rfl|false=>grind
     have W:(Bc c.p e.type).length=e.kids.length:=KG λhh=>hs (.inr hh);exact .inr (.inl ⟨k3,Z,a0,⟨by grind,(gM _ _ (by grind)).1 J⟩,V⟩)
  .rintro(⟨h,_⟩|⟨_,Z,hs,I,rfl⟩|⟨_,_,_,_,_,h|h|h⟩)
   .omega
   .rw[Z];simp only;have W:(Bc c.p e.type).length=e.kids.length:=by simpa using I.1
    rw[A5 (by grind)];exact LQ.2 ⟨(gM _ _ I.1).2 I.2,rfl⟩
   all_goals omega
 rw[A5 k3];by_cases k2:e.kind≠2/\e.kind≠4/\e.kind≠5
 .rw[A7 k2]
  grind[dG]
 rw[A5 k2];cases E:e.kids with
 |nil =>grind[dG]
 |cons v vs =>
  simp only[Cj];have L:∀Q:Prop,((e.kind=1/\Q)\/(e.kind=3/\Br c.p c.env e.type=none/\Kt c e.type=true/\Si c ((Bc c.p e.type).map (·.type)) (v::vs)/\t=e.type)\/∃(v':Ex) (O:List Ex) (x:Ty),v::vs=v'::O/\Dc c v'=(x,none) /\ ((e.kind=2/\∃s,Nh c e x=.inr s/\Si c (Tu s e.targs) O/\t=s.result.subst (Ad s.A1) e.targs) \/ (e.kind=4/\Kt c x=true/\∃(k:Nat) (f:Param),Gp (Bc c.p x) e.name=k/\(Bc c.p x)[k]?=some f/\t=f.type) \/ (e.kind=5/\Br c.p c.env e.type=none/\(c.strict=true->V7 c x e.type=true)/\t=e.type)))↔∃x,Dc c v=(x,none) /\((e.kind=2/\∃s,Nh c e x=.inr s/\Si c (Tu s e.targs) vs/\t=s.result.subst (Ad s.A1) e.targs) \/ (e.kind=4/\Kt c x=true/\∃(k:Nat) (f:Param),Gp (Bc c.p x) e.name=k/\(Bc c.p x)[k]?=some f/\t=f.type) \/ (e.kind=5/\Br c.p c.env e.type=none/\(c.strict=true->V7 c x e.type=true)/\t=e.type)):=by
   intro Q;constructor
   .grind
   .grind
  rw[L];rcases hv:Dc c v with⟨x,o⟩
  cases o with
  |some q =>simp only[dG,false_iff];simp
  |none =>
   simp only;have hx:∀R:Ty->Prop,(∃y,(x,(none:Option Int))=(y,none)/\R y)↔R x:=λR=>⟨λ⟨y,h,r⟩=>by cases h;exact r,λr=>⟨x,rfl,r⟩⟩;rw[hx];by_cases e2:e.kind=2
   .rw[A7 e2];unfold cP;constructor
    .intro h;split at h;exact(dG.1 h).elim
     .rename_i s hs;obtain⟨J,V⟩:=LQ.1 h;have W:=(Wa.1 hs).2.2.2.2.2;rw[E,Bg]at W;rw[E]at J;have U:(Tu s e.targs).length=vs.length:=by unfold Tu;rw[B7];omega
      exact .inl ⟨e2,s,hs,⟨U,(gM _ _ U).1 J⟩,V⟩
    .rintro(⟨_,s,hs,I,rfl⟩|⟨h,_⟩|⟨h,_⟩);rw[hs];simp only;rw[E];exact LQ.2 ⟨(gM _ _ I.1).2 I.2,rfl⟩;all_goals omega
   rw[A5 e2];by_cases e4:e.kind=4;rw[A7 e4];unfold DN;constructor;intro h;split at h;exact(dG.1 h).elim;rename_i hs;obtain⟨k,f,J,V,h3⟩:=(MZ (Bc c.p x) e.name (λf=>(f.type,(none:Option Int))) (Lt e.pos) (t,none) (by simp[Lt])).1 h;grind;grind;rw[A5 e4];unfold aO;constructor;grind[dG];grind
def JE{p:Prog}{x y:Ty}(h:x.er=y.er):(Bc p x).map Param.er=(Bc p y).map Param.er:=by grind[PH,Bc,Xc,fieldsD,List.map_congr_left,rm]
def Wq{α β:Type}{f:α->β}{l m:List α}(h:l.map f=m.map f){i:Nat}{x:α}(E:l[i]?=some x):∃y,m[i]?=some y/\f y=f x:=by
 have:(l.map f)[i]?=(m.map f)[i]?:=by rw[h]
 grind
def Yr{s E:A4}(h:E.er=s.er):E.name=s.name/\E.A1.map Aj.er=s.A1.map Aj.er/\E.params.map Param.er=s.params.map Param.er/\E.result.er=s.result.er:=by grind[A4.er]
def F8i{p:Prog}{env:List Aj}{x y:Ty}(J:B9 p y 1=true)(h:Cr p env x y=true):x.er=y.er:=by
 have I:¬isIface p env y=true:=λE=>by unfold isIface at E;rw[Bh]at E;have:=(Pf E.1).1;grind[Pf]
 unfold Cr at h;rw[A5 I,Ut]at h;exact h
section
variable {p:Prog} {env env':List Aj} {v:List A3} {a:List Ty}
def dx(hp:PW p)(sb:Sb p env env' v a)(ha:∀u,u∈a->Br p env' u=none){st:Bool}{vars vars':List Param}{e I:Ex}{t:Ty}
  (hk:I.kind=e.kind)(V:I.name=e.name)(ht:I.type=e.type.subst v a)(hg:I.targs=e.targs.map (Ty.subst v a))(hl:I.kids.length=e.kids.length)(h1:e.kind≠1)
  (h:Dc ⟨p,st,env,vars⟩ e=(t,none))
  (ih:∀(i:Nat) (k k':Ex) (K:Ty),e.kids[i]?=some k->I.kids[i]?=some k'->Dc ⟨p,st,env,vars⟩ k=(K,none)->∃K',Dc ⟨p,false,env',vars'⟩ k'=(K',none)/\Cr p env' K' (K.subst v a)=true) :
  ∃t',Dc ⟨p,false,env',vars'⟩ I=(t',none)/\Cr p env' t' (t.subst v a)=true:=by
 have kids:∀(W E:List Ty) (es Z:List Ex) (off:Nat),Si ⟨p,st,env,vars⟩ W es->es.length=Z.length->E.length=W.length ->(∀(i:Nat) (k:Ex),es[i]?=some k->e.kids[i+off]?=some k)->(∀(i:Nat) (k:Ex),Z[i]?=some k->I.kids[i+off]?=some k) ->(∀(i:Nat) (w w':Ty),W[i]?=some w->E[i]?=some w'->w'.er=(w.subst v a).er)->Si ⟨p,false,env',vars'⟩ E Z:=by
  intro W E es Z off hK aj U h1 h2 h3;refine⟨by rw[U,hK.1,aj],λi w' k' J O=>?_⟩;have hi:i<W.length:=by rw[<-U];exact(Az.1 J).1
  have hw:W[i]?=some W[i]:=Bu hi;have ab:i<es.length:=by rw[<-hK.1];exact hi
  have a7:es[i]?=some es[i]:=Bu ab;obtain⟨K,c1,c2⟩:=hK.2 i _ _ hw a7;obtain⟨K',d1,d2⟩:=ih (i+off) _ k' K (h1 i _ a7) (h2 i k' O) c1;exact⟨K',d1,Zw d2 (Zw (SQ hp sb c2) (Yw (h3 i _ w' hw J).symm))⟩
 rcases Jc.1 h with⟨h,_⟩|⟨k3,hc,hs,hK,rfl⟩|⟨w,W,x,a9,hx,a2⟩;omega;obtain⟨i1,i2⟩:=Z2.1 hs;obtain⟨_,j2,_,j4⟩:=sb.inst (by decide) i1;have hf:=xY hp sb i1;refine⟨I.type,Jc.2 (.inr (.inl ⟨by omega,?_,?_,?_,rfl⟩)),?_⟩;grind[kD];grind[Z2];refine kids _ _ _ _ 0 hK hl.symm ?_ (λi k h=>h) (λi k h=>h) ?_;grind;intro i y y' J O;rw[ht]at O;have O:((Bc p (e.type.subst v a)).map (·.type))[i]?=some y':=O;have J:((Bc p e.type).map (·.type))[i]?=some y:=J;rw[hf,Dn,Df,Jn]at O;rw[Df,Jn]at J;obtain⟨f,f1,rfl⟩:=J;obtain⟨f',f2,rfl⟩:=O;rw[f1]at f2;cases f2;rfl;grind[LN]
 .have ap:0<I.kids.length:=by rw[hl,a9];simp
  cases L:I.kids with
  |nil=>grind
  |cons w' E =>
   have U:E.length=W.length:=by rw[a9,L]at hl;simpa using hl
   obtain⟨x',a4,a6⟩:=ih 0 w w' x (by grind) (by grind) hx;rcases a2 with⟨k2,s,hs,hK,rfl⟩|⟨k4,hs,k,f,a0,a5,rfl⟩|⟨k5,hc,_,rfl⟩
   .obtain⟨s1,s2,s3,s4,s5,s6⟩:=Wa.1 hs;simp only at s1 s2 s3 s4 s5 s6;obtain⟨r1,ad,am⟩:=eZ hp sb s1;obtain⟨s',ag,ai⟩:=JJ a6 r1 ad;obtain⟨q1,q2,q3,q4⟩:=Yr (ai.trans am);have ac:=(iU s s1).fs;have a1:∀n,n∈Ad s.A1->P6 n:=λn V=>by rw[ac]at V;obtain⟨i,_,rfl⟩:=Ap.1 V;exact⟨i,rfl⟩
    have ah:Ad s'.A1=Ad s.A1:=by rw[<-Tv s'.A1,q2,Tv];simp only[A4.subst,Ad,Dn];rfl
    have a3:∀(b b':Ty),b'.er=(b.subst v a).er->(b'.subst (Ad s'.A1) I.targs).er=((b.subst (Ad s.A1) e.targs).subst v a).er:=by intro b b' hb;rw[G6v (λn V=>sb.out (.inl (a1 n V))) (λu hu=>(sb.clean u hu).mono λn V hm=>V (a1 n hm)),Gu,Gu,hb,ah,hg]
    have ao:s'.A1.length=s.A1.length:=by have:=F8 List.length q2;simpa [A4.subst]using this
    have aa:s'.params.length=s.params.length:=by have:=F8 List.length q3;simpa [A4.subst]using this
    have a':Nh ⟨p,false,env',vars'⟩ I x'=.inr s':=by rw[Wa];simp only;refine⟨ag,by rw[q1,V];exact s2,by grind,λu hu=>?_,?_,by omega⟩;rw[hg]at hu;obtain⟨u0,af,rfl⟩:=Ap.1 hu;exact kD hp sb ha (s4 u0 af);rw[W4]at s5 |-;intro i f' u' f1 f2;obtain⟨g,J,O⟩:=Wq q2 f1;simp only[A4.subst]at J;rw[Df,Jn]at J;obtain⟨f,f3,rfl⟩:=J;rw[hg,Df,Jn]at f2;obtain⟨u,f4,rfl⟩:=f2;have hb:=F8 Aj.bound O;exact Zw (SQ hp sb (s5 i f u f3 f4)) (Yw (a3 f.bound f'.bound hb.symm).symm)
    refine⟨_,Jc.2 (.inr (.inr ⟨w',E,x',L,a4,.inl ⟨by omega,s',a',?_,rfl⟩⟩)),?_⟩;refine kids _ _ _ _ 1 hK U.symm (by simp[Tu,aa]) (λi k h=>by grind) (λi k h=>by grind) ?_;intro i y y' J O;unfold Tu at J O;rw[Df,Jn]at J O;obtain⟨f,f1,rfl⟩:=J;obtain⟨f',f2,rfl⟩:=O;obtain⟨g,h1,h2⟩:=Wq q3 f2;simp only[A4.subst]at h1;rw[Df,f1]at h1;simp only[Em,B8]at h1;subst h1;exact a3 _ _ (F8 Param.type h2).symm;exact Yw (a3 _ _ q4)
   .obtain⟨i1,i2⟩:=Z2.1 hs;obtain⟨_,j2,_,j4⟩:=sb.inst (by decide) i1;have hex:=F8i j2 a6;have a8:(Bc p x').map Param.er=((Bc p x).map (Param.subst v a)).map Param.er:=by rw[<-xY hp sb i1];exact JE hex
    have ak:(Bc p x').map (·.name)=(Bc p x).map (·.name):=by have:=F8 (List.map Param.name) a8;simp only[Dn]at this;exact this
    have ae:(((Bc p x).map (Param.subst v a)))[k]?=some (f.subst v a):=by have a5:(Bc p x)[k]?=some f:=a5;rw[Df,a5];rfl
    obtain⟨f',f1,f2⟩:=Wq a8.symm ae;refine⟨f'.type,Jc.2 (.inr (.inr ⟨w',E,x',L,a4,.inr (.inl ⟨by omega,?_,k,f',?_,f1,rfl⟩)⟩)),?_⟩;grind[Z2,Xc,gP];have a0:Gp (Bc p x) e.name=k:=a0;show Gp (Bc p x') I.name=k;unfold Gp at a0 |-;rw[AK,ak,V,<-AK,a0]
    exact Yw (F8 Param.type f2)
   refine⟨I.type,Jc.2 (.inr (.inr ⟨w',E,x',L,a4,.inr (.inr ⟨by omega,?_,(λh=>by cases h),rfl⟩)⟩)),?_⟩;grind[kD];grind[LN]
def Qi(v:List A3)(a:List Ty)(e:Ex):e.subst v a=.mk e.kind e.name (e.type.subst v a) (e.targs.map (Ty.subst v a)) (e.kids.map (Ex.subst v a)) e.pos:=by unfold Ex.subst;rw[AE];rfl
def H4b(names:List A3)(E:List Ex)(e:Ex):e.Ta names E=QL names E (e.Xy (e.kids.map (Ex.Ta names E))):=by unfold Ex.Ta;rw[AE]
end
theorem lx(u:Nat):(Lib.decDigits u).foldl (λa b=>10*a+(b.toNat - 48)) 0=u:=by induction u using Nat.strongRecOn with|_ u E=>?_;grind[Lib.decDigits,UInt8.toNat_ofNat']
theorem jy{i j:Nat}(h:En i=En j):i=j:=by unfold En Lib.itoa at h;simp only[Ya,Qx]at h;rw[A5 (by omega),A5 (by omega)]at h;have:=F8 (List.foldl (λa b=>10*a+(b.toNat - 48)) 0) h;grind[lx]
def H4i{n k:Nat}(h:k<n):Du (En k) ((List.range n).map En) 0=k:=by grind[NF,jy]
theorem aK{n:A3}(h:isName n=true):¬P6 n:=by
 rintro⟨i,rfl⟩;have E:cls (UInt8.toNat 36)≠1:=by decide
 unfold En isName at h;grind
def v8{p:Prog}:∀{l pre:List Aj},tF p pre l=none->∀(i:Nat)(f:Aj),l[i]?=some f->kindOf p f.name=0/\f.name∉Ad pre/\f.name∉Ad (l.take i)
 |[],_,_=>by simp
 |x::l,pre,h=>by
  intro i f I;rw[tF]at h;split at h;cases h
  .rename_i U;obtain⟨V,O⟩:=Yo.1 U;cases i with
   |zero=>simp at I;subst I;exact⟨KG V,O,by simp[Ad]⟩
   |succ i =>obtain⟨L,E,J⟩:=v8 h i f (by grind);simp only[Ad,Gy,Bj,Yo,Cj,G5,Pj]at E;refine⟨L,E.1,?_⟩;simp only[RC,Ad,Cj,Ay,Yo];exact⟨E.2,J⟩
def Xl{p:Prog}{all:List Aj}:∀{l:List Aj},PF p all l=none->∀f,f∈l->Br p all f.bound=none/\isIface p all f.bound=true
 |[],_=>by simp
 |x::l,h=>by rw[PF]at h;intro f hf;split at h;cases h;rename_i E;split at h;rename_i I;rcases Ay.1 hf with rfl|hf;grind;exact Xl h f hf;grind
def jF{p:Prog}{env l:List Aj}(h:Pn p env l=none):(∀(i:Nat)(f:Aj),l[i]?=some f->kindOf p f.name=0/\f.name∉Ad env/\f.name∉Ad (l.take i))/\∀f,f∈l->Br p (env++l) f.bound=none/\isIface p (env++l) f.bound=true:=by unfold Pn at h;split at h;cases h;rename_i E;exact⟨v8 E,Xl h⟩
theorem nM{p:Prog}{env:List Aj}:∀{l:List Param} {pre:List A3},Kc p env pre l=none->∀f,f∈l->Br p env f.type=none
 |[],_,_=>by simp
 |x::l,pre,h=>by rw[Kc]at h;intro f hf;split at h;cases h;split at h;cases h;rename_i E;rcases Ay.1 hf with rfl|hf;exact E;exact nM h f hf
def QF{p:Prog}{env:List Aj}{s:A4}(h:Iw p env s=none):Pn p env s.A1=none/\(∀f,f∈s.params->Br p (env++s.A1) f.type=none)/\Br p (env++s.A1) s.result=none:=by grind[Iw,nM]
def yV{p:Prog}{env:List Aj}:∀{l:List A4} {pre:List A3},Pu p env pre l=none->∀s,s∈l->Iw p env s=none
 |[],_,_=>by simp
 |x::l,pre,h=>by rw[Pu]at h;intro s hs;split at h;cases h;split at h;cases h;rename_i E;rcases Ay.1 hs with rfl|hs;exact E;exact yV h s hs
def wj{p:Prog}:∀{l pre:List A3},W9 p pre l=false->∀(i:Nat)(v:A3),l[i]?=some v->kindOf p v=0/\v∉pre/\v∉l.take i
 |[],_,_=>by simp
 |x::l,pre,h=>by
  intro i f E;rw[W9,DJ,lC]at h;obtain⟨U,L⟩:=Yo.1 h.1;cases i with
  |zero=>grind
  |succ i =>obtain⟨J,O,I⟩:=wj h.2 i f (by grind);grind
def HW(p:Prog):Prop:=∀(i:Nat)(d:Decl),p.decls[i]?=some d->Pm p i d=none
def eF{p:Prog}{x:A3}{d:Decl}(h:Ec p x=some d):(d.kind=1\/d.kind=2)/\d.name=x/\d∈p.decls:=by unfold Ec at h;have E:=oR h;have I:=vN h;unfold Decl.E5 at E;grind
def nD{p:Prog}(J:HW p){x:A3}{d:Decl}(h:Ec p x=some d):Pn p [] d.A1=none/\(d.kind=1->∀f,f∈d.fields->Br p d.A1 f.type=none)/\(d.kind=2->∀s,s∈d.sigs->Iw p d.A1 s=none):=by obtain⟨L,V,U⟩:=eF h;obtain⟨i,O⟩:=Lx U;have E:=J i d O;unfold Pm at E;rw[A7 L]at E;unfold Z5 at E;split at E;cases E;split at E;cases E;rename_i I;refine⟨I,λk1=>?_,λk2=>?_⟩;rw[A7 k1]at E;grind[nM];rw[A5 (by omega)]at E;exact yV E
def nL{p:Prog}(L:HW p){d:Decl}(hd:d∈p.decls)(O:d.kind=3):kindOf p d.name=1/\d.vars.length=(Dm p d.name).length/\W9 p [] d.vars=false/\Iw p (Fq p d) d.sig=none:=by
 obtain⟨i,U⟩:=Lx hd;have E:=L i d U;unfold Pm at E;rw[A5 (by omega),A7 O]at E;unfold xD at E;split at E;cases E
 .rename_i I;obtain⟨I,V⟩:=Yo.1 I;split at E;cases E
  .rename_i W;split at E;cases E
   .cases J:Iw p (Fq p d) d.sig with
    |some q=>rw[J]at E;cases E
    |none=>grind
def ml{p:Prog}{d:Decl}(h:d.vars.length=(Dm p d.name).length):Ad (Fq p d)=d.vars:=by unfold Fq Ad;rw[Dn];exact List.map_snd_zip (by omega)
theorem CU{p:Prog}(hr:p.right=true){d:Decl}(hd:d∈p.decls):isName d.name=true/\(∀v,v∈d.vars->isName v=true)/\(d.kind=3->∀f,f∈d.sig.A1->isName f.name=true):=by unfold Prog.right at hr;rw[Bh,Dz]at hr;have h:=hr.1 d hd;unfold Decl.right at h;simp at h;refine⟨h.1,h.2.2.2.2.1,λI f J=>?_⟩;have E:=h.2.2.2.2.2;unfold Decl.Ub at E;rw[A7 I]at E;unfold A4.right Qn at E;grind
def vI{p:Prog}(hr:p.right=true)(J:HW p):PW p:=by
 refine⟨λn U=>?_,λx d hd f E=>?_,λx d hd I f E=>?_,λx d hd I s hs=>?_,λd hd I=>?_⟩;obtain⟨d,hd,_,_⟩:=ZG U;obtain⟨_,L,O⟩:=eF hd;grind[aK,CU];exact PD (by have:=((jF (nD J hd).1).2 f E).1;grind);exact PD ((nD J hd).2.1 I f E)
 .obtain⟨V,L,O⟩:=QF ((nD J hd).2.2 I s hs);have key:∀t:Ty,Br p (d.A1++s.A1) t=none->t.Lf λn=>n∈Ad s.A1\/(n∈Ad d.A1\/kindOf p n≠0):=λt ht =>
   (PD ht).mono λn U=>by grind[Ad]
  exact⟨λf E=>key _ ((jF V).2 f E).1,λf E=>key _ (L f E),key _ O⟩
 .obtain⟨_,Z,_,W⟩:=nL J hd I;obtain⟨V,L,O⟩:=QF W;have a0:=ml Z;have key:∀t:Ty,Br p (Fq p d++d.sig.A1) t=none->t.Lf λn=>n∈Ad d.sig.A1\/(n∈d.vars\/kindOf p n≠0):=λt ht =>
   (PD ht).mono λn U=>by grind[Ad]
  exact⟨λf E=>key _ ((jF V).2 f E).1,λf E=>key _ (L f E),key _ O⟩
def mf{F:List A3}{vars E:List A3}{A B:List Ty}{n:Nat}{K:A3->Prop}(hF:F.length=n)(hB:B.length=n)(hA:vars.length=A.length)(J:E=(List.range n).map En)
  (hd:∀m,m∈vars->m∉F)(hv:∀m,m∈vars->¬P6 m)(hK:∀m,K m->¬P6 m)(hc:∀u,u∈A->u.Lf λn=>¬P6 n)(b:Ty)(hb:b.Lf λm=>m∈F\/(m∈vars\/K m)) :
  ((b.subst F (Dv n)).subst vars A).subst E B=b.subst (vars++F) (A++B):=by
 have L:∀m,m∈E->P6 m:=λm Z=>by rw[J]at Z;obtain⟨i,_,rfl⟩:=Ap.1 Z;exact⟨i,rfl⟩
 induction b using Ty.induct with|_ b ih=>?_;by_cases I:b.args=[]
 .have e0:∀v a,I9 v a b.name=none->b.subst v a=b:=λv a hh=>by rw[Jt λ_=>hh,I];cases b;simp only[Ty.args]at I;subst I;rfl
  by_cases U:b.name∈vars;have O:=hd _ U;obtain⟨k,u,_,_,W,g4⟩:=uE U (args:=A) (by omega);have a0:=hc u (Bs W);rw[e0 F _ (Pv O),Tg I g4,Tg (vars:=vars++F) (u:=u) I (by rw[CL hA,A7 U];exact g4),s9];exact .of (λh Z=>a0.name h (L _ Z)) λx hx=>(a0.arg x hx).mono λm Z a1=>Z (L _ a1)
  .by_cases O:b.name∈F
   .obtain⟨k,u,g1,g2,W,g4⟩:=uE O (args:=Dv n) (by simp[Dv,hF]);have hk:k<n:=by have:=(Az.1 W).1;simpa [Dv]using this
    have hu:u=Vu k:=by unfold Dv at W;rw[Df,HG hk]at W;simpa using W.symm
    subst hu;obtain⟨V,w,k1,k2,k3,k4⟩:=uE O (args:=B) (by omega);have a3:V=k:=by omega
    subst a3;rw[Tg I g4];show Ty.subst E B (Ty.subst vars A (.mk (En V) [] b.pos))=_;have a2:I9 E B (En V)=some w:=by unfold I9;rw[J,H4i hk,A7 (by omega),Ic];exact k3
    rw[Jt (t:=.mk (En V) [] b.pos) λ_=>Pv λhh=>hv _ hh ⟨V,rfl⟩];show Ty.subst E B (.mk (En V) [] b.pos)=_;rw[Tg (t:=.mk (En V) [] b.pos) (u:=w) rfl a2,Tg (vars:=vars++F) (u:=w) I (by rw[CL hA,A5 U];exact k4)];rfl
   .have h3:K b.name:=by rcases hb.name I with h|h|h;exact absurd h O;exact absurd h U;exact h
    rw[e0 F _ (Pv O),e0 vars _ (Pv U),e0 E _ (Pv λhh=>hK _ h3 (L _ hh)),e0 (vars++F) _ (by rw[CL hA,A5 U,Pv O])]
 .rw[Jt λh=>absurd h I,Jt (t:=.mk _ _ _) λh=>absurd h (by simpa [Ig]using I),Jt (t:=.mk _ _ _) λh=>absurd h (by simpa [Ig]using I),Jt (t:=b) λh=>absurd h I];simp only[Ig,Rr,mkQ,Dn]
  congr 1
  exact Hb λu hu=>ih u hu (hb.arg u hu)
abbrev H3d(p:Prog):Cd:=⟨p,false,[],[]⟩
def UF{p:Prog}{x:Ty}{s:A4}(V:B9 p x 1=true)(hs:s∈D7 p [] x):∃d,d∈p.decls/\d.kind=3/\d.name=x.name/\d.vars.length=x.args.length/\s=d.sig.canon.subst d.vars x.args/\L9 p x s.name=some d:=by
 unfold D7 at hs;have Z:D3 [] x=none:=by unfold D3 Fk;simp
 rw[Z]at hs;simp at hs;have O:¬B9 p x 2=true:=λh=>by have:=(Pf h).1;grind[Pf]
 rw[A5 O]at hs;unfold Hf at hs;rw[Ap]at hs;obtain⟨⟨d,i⟩,hd,rfl⟩:=hs;rw[Kp]at hd;have J:=hd.2;unfold Jm at J;simp at J;obtain⟨⟨W,hn⟩,E⟩:=J;have L:p.decls[i]?=some d:=by have:=hd.1;rw[Ca]at this;obtain⟨_,O,U⟩:=List.mem_zipIdx this;simp at U;rw[U];exact Bu _
 have I:N4 p x.name d.sig.name=(i:Int)/\d.vars.length=x.args.length:=by unfold Ld at E;rw[A7 V]at E;split at E;grind;omega
 refine⟨d,Bs L,W,hn,I.2,rfl,?_⟩;show L9 p x d.sig.name=some d;unfold L9;rw[A7 V];have hf:p.decls.find? (E2 x.name d.sig.name)=some d:=by
  unfold N4 E3 at I;cases h:p.decls.findIdx? (E2 x.name d.sig.name)with
  |none=>grind
  |some j =>grind[List.findIdx?_eq_some_iff_getElem,List.find?_eq_some_iff_getElem]
 grind
theorem G6z{l:List A3}(h:∀(i:Nat)(v:A3),l[i]?=some v->v∉l.take i){i:Nat}{v:A3}(E:l[i]?=some v):Du v l 0=i:=by
 have:=Rv (p:=λx:A3=>decide (x=v)) E (by simp) λy I=>by grind
 rw[<-this,AK (λx:A3=>x) v l,List.map_id']
theorem G9k{vars:List A3}{args:List Ty}{n:A3}{k:Nat}{u:Ty}(h:Du n vars 0=k)(E:args[k]?=some u):I9 vars args n=some u:=by unfold I9;grind
section
variable {p:Prog}
def du{p:Prog}{d:Decl}(J:∀(i:Nat)(v:A3),d.vars[i]?=some v->v∉d.vars.take i){F:List A3}{A B:List Ty}(I:d.vars.length=A.length):((Fj d.vars).map (Ty.subst (d.vars++F) (A++B))).map Ty.er=A.map Ty.er:=by
 refine Kx λi=>?_;simp only[Fj,Dn,Df];cases E:d.vars[i]? with
 |none =>grind
 |some v =>
  have O:=(Az.1 E).1;have L:A[i]?=some (A[i]'(by omega)):=Bu (by omega);rw[L];simp only[Em,Function.comp]
  congr 1
  rw[Tg (t:=.mk v [] 0) (u:=A[i]'(by omega)) rfl]
  .exact EO
  .rw[Rr,CL I,A7 (Bs E)]
   grind[G9k,G6z]
structure zN(p:Prog)(d:Decl)(x:Ty)(targs:List Ty):Prop where
 sb:Sb p (Fq p d++d.sig.A1) [] (d.vars++Ad d.sig.A1) (x.args++targs)
 wf:∀u,u∈x.args++targs->Br p [] u=none
 self:((iD d).subst (d.vars++Ad d.sig.A1) (x.args++targs)).er=x.er
 inst:∀b:Ty,Br p (Fq p d++d.sig.A1) b=none->((b.subst (Ad d.sig.A1) (Dv d.sig.A1.length)).subst d.vars x.args).subst (Ad d.sig.canon.A1) targs=b.subst (d.vars++Ad d.sig.A1) (x.args++targs)
def called(hr:p.right=true)(hw:HW p){d:Decl}(hd:d∈p.decls)(hk:d.kind=3){x:Ty}(hx:Br p [] x=none)(hi:B9 p x 1=true)(L:d.name=x.name){targs:List Ty}(ag:d.sig.A1.length=targs.length)
  (ht:∀t,t∈targs->Br p [] t=none)(hb:Hn p [] (d.sig.canon.subst d.vars x.args).A1 targs<0):zN p d x targs:=by
 have hp:=vI hr hw;obtain⟨m1,m2,m3,m4⟩:=nL hw hd hk;obtain⟨s1,s2,s3⟩:=QF m4;obtain⟨f1,f2⟩:=jF s1;have a2:=ml m2;obtain⟨x1,x2⟩:=Pf hi;have a1:d.vars.length=x.args.length:=by rw[m2,L,x2]
 have hv:=wj m3;obtain⟨r1,r2,r3⟩:=CU hr hd;have a4:(∀u,u∈x.args->Br p [] u=none)/\Hn p [] (Dm p x.name) x.args<0:=by rcases zD.1 hx with h|⟨_,_,h3,h4⟩;grind[D3];grind
 have a8:∀u,u∈x.args++targs->Br p [] u=none:=λu I=>(Bj.1 I).elim (a4.1 u) (ht u);have a5:∀u,u∈x.args++targs->u.Lf λn=>¬P6 n:=λu I=>(PD (a8 u I)).mono λn L=>L.elim (by simp[Ad]) (hp.name n);have ad:(Ad d.sig.A1).length=d.sig.A1.length:=by simp[Ad]
 have a9:∀m,m∈d.vars->m∉Ad d.sig.A1:=λm hm hf=>by obtain⟨f,ae,aj⟩:=Ap.1 hf;grind[List.getElem?_of_mem]
 have Z:Ad d.sig.canon.A1=(List.range d.sig.A1.length).map En:=by rw[(FK d.sig).fs];simp[A4.canon,I2]
 have W:∀b:Ty,Br p (Fq p d++d.sig.A1) b=none->((b.subst (Ad d.sig.A1) (Dv d.sig.A1.length)).subst d.vars x.args).subst (Ad d.sig.canon.A1) targs=b.subst (d.vars++Ad d.sig.A1) (x.args++targs):=λb hb =>
  mf (K:=λn=>kindOf p n≠0) ad ag.symm a1 Z a9 (λm hm=>aK (r2 m hm)) hp.name (λu I=>a5 u (CW _ I)) b ((PD hb).mono λn L=>by grind[Ad])
 have V:Ad (Fq p d++d.sig.A1)=d.vars++Ad d.sig.A1:=by rw[<-a2];unfold Ad;rw[Gy]
 have aa:kindOf p d.name≠0:=by omega
 obtain⟨J,a',ao,O⟩:=ZG aa;obtain⟨t1,t2⟩:=jF (nD hw a').1;have ah:=du (p:=p) (d:=d) (λi v h=>(hv i v h).2.2) (F:=Ad d.sig.A1) (A:=x.args) (B:=targs) a1;have E:∀n,n∈d.vars++Ad d.sig.A1->kindOf p n=0/\¬P6 n:=λn L=>by rcases Bj.1 L with h|h;grind[List.getElem?_of_mem,aK];obtain⟨f,ae,rfl⟩:=Ap.1 h;grind[List.getElem?_of_mem,aK]
 have a0:∀n,n∈Ad (Fq p d++d.sig.A1)->kindOf p n=0:=λn L=>(E n (by grind)).1;have ab:∀(l:Aj),l∈J.A1->∀a:List Ty,(l.bound.subst (Ad J.A1) a).name=l.bound.name/\(l.bound.subst (Ad J.A1) a).args.length=l.bound.args.length/\B9 p l.bound 2=true:=by
  intro l hl a;have U:=(t2 l hl).2;simp at U;unfold isIface at U;rw[Bh]at U;have a3:D3 J.A1 l.bound=none:=by
   cases hh:D3 J.A1 l.bound with
   |none=>rfl
   |some y=>grind
  have:l.bound.subst (Ad J.A1) a=.mk l.bound.name (l.bound.args.map (Ty.subst (Ad J.A1) a)) l.bound.pos:=Jt λha=>Pv (Fl a3 ha);rw[this];exact⟨rfl,by simp[Ig],U.1⟩
 refine⟨⟨V.symm,by grind,E,by simp[Ad],a5,λf hf=>?_,λi f u hf I=>?_⟩,a8,?_,W⟩
 .rcases Bj.1 hf with hf|hf
  .unfold Fq at hf;obtain⟨⟨l,w⟩,hz,rfl⟩:=Ap.1 hf;have hl:l∈J.A1:=by rw[<-O];exact(nR hz).1
   obtain⟨g1,g2,g3⟩:=ab l hl (Fj d.vars);unfold isIface;simp only;rw[O,Bh];refine⟨nk g3 g1 g2,?_⟩;rw[AL a0 (by grind[Pf])];rfl
  grind
 .by_cases ai:i<d.vars.length
  .have a6:(Fq p d).length=d.vars.length:=by have:=F8 List.length a2;simpa [Ad]using this
   rw[Mm (by omega)]at hf I;unfold Fq at hf;rw[Df,Jn]at hf;obtain⟨⟨l,w⟩,hz,rfl⟩:=hf;rw[xR]at hz;have af:=W4.1 a4.2 i l u (by grind) I;refine Zw af (Yw ?_);simp only;rw[<-L,O];have hl:l∈J.A1:=by rw[<-O];exact Bs hz.1
   rw[UJ _ _ _ _ (by grind[Ad,Fj]) _ ((hp.bnd _ J a' l hl).mono λn L=>L.imp_right λh hm=>h (E n hm).1),Gu,Gu,ah]
  .have a6:(Fq p d).length=d.vars.length:=by have:=F8 List.length a2;simpa [Ad]using this
   rw[Lq (by omega)]at hf I;rw[a6]at hf;rw[<-a1]at I;have am:=Bs hf;have ac:(d.sig.canon.subst d.vars x.args).A1[i - d.vars.length]?=some ⟨En (i - d.vars.length),(f.bound.subst (Ad d.sig.A1) (Dv d.sig.A1.length)).subst d.vars x.args,f.pos⟩:=by have a7:=(Az.1 hf).1;simp only[A4.subst,A4.canon,I2];rw[Df,Px,hf];simp only[Em,Aj.subst,A7 a7]
   have:=W4.1 hb _ _ u ac I;simp only at this;have ak:Ad (d.sig.canon.subst d.vars x.args).A1=Ad d.sig.canon.A1:=by simp only[A4.subst,Ad,Dn];rfl
   grind
 .rw[BK];have a3:(if(iD d).args=[]then I9 (d.vars++Ad d.sig.A1) (x.args++targs) (iD d).name else none)=none:=by split;refine Pv λhm=>?_;have:=(E _ hm).1;exact aa this;rfl
  rw[a3];simp only[iD,Ig,Rr,mkQ];grind[Gv,Rr,Ig]
end
def nf{c:Cd}{E:List Ty}{es:List Ex}(L:∀x,x∈es->∀t,Dc c x=(t,none)->Dc { c with strict:=false } x=(t,none))(h:Si c E es):Si { c with strict:=false } E es :=⟨h.1,λi w k I J=>by
  obtain⟨K,U,O⟩:=h.2 i w k I J
  grind⟩
def lax(c:Cd):∀(e:Ex)(t:Ty),Dc c e=(t,none)->Dc { c with strict:=false } e=(t,none):=by intro e;induction e using Ex.induct with|_ e J=>?_;intro t h;refine Jc.2 ?_;rcases Jc.1 h with h1|⟨Z,h4,U,L,O⟩|⟨v,vs,x,I,hx,W⟩;grind;exact .inr (.inl ⟨Z,h4,U,nf J L,O⟩);have E:∀y,y∈v::vs->∀t,Dc c y=(t,none)->Dc { c with strict:=false } y=(t,none):=λy hy=>J y (by grind);refine .inr (.inr ⟨v,vs,x,I,E v (by simp) x hx,?_⟩);rcases W with⟨k2,s,hs,V,ht⟩|h4|⟨k5,L,_,O⟩;exact .inl ⟨k2,s,hs,nf (λy hy=>E y (by grind)) V,ht⟩;exact .inr (.inl h4);grind
def WY:∀l:List Ex,(∀x,x∈l->x.One)->KA l
 |[],_=>trivial
 |x::l,h=>by rw[KA];exact⟨h x (by simp),WY l λy E=>h y (by grind)⟩
def Ex.One.of{e:Ex}(h:jU e)(E:∀x,x∈e.kids->x.One):e.One:=by cases e with|mk k n t a ks q=>rw[Ex.One];exact⟨h,WY ks E⟩
def jg{e:Ex}(f:Ex->Ex)(n:A3)(t:Ty)(a:List Ty)(q:Int)(h:e.One)(L:∀x,x∈e.kids->(f x).One):(Ex.mk e.kind n t a (e.kids.map f) q).One :=.of ⟨λI=>by show e.kids.map f=[];rw[h.out.1.1 I];rfl,λE=>by show(e.kids.map f).length=1;rw[B7];exact h.out.1.2 E⟩ λx J=>by
  obtain⟨y,O,rfl⟩:=Ap.1 J
  grind
def Ex.One.subst(v:List A3)(a:List Ty):∀{e:Ex},e.One->(e.subst v a).One:=by intro e;induction e using Ex.induct with|_ e I=>?_;intro h;rw[Qi];exact jg _ _ _ _ _ h λy E=>I y E (h.out.2 y E)
def Ex.One.Ta{names:List A3}{E:List Ex}(L:∀x,x∈E->x.One):∀{e:Ex},e.One->(e.Ta names E).One:=by intro e;induction e using Ex.induct with|_ e J=>?_;intro h;rw[H4b];have O:(e.Xy (e.kids.map (Ex.Ta names E))).One:=jg _ _ _ _ _ h λy I=>J y I (h.out.2 y I);grind[QL]
def RL{p:Prog}(hr:p.right=true):(∀d,d∈p.decls->d.kind=3->d.body.One)/\p.main.One:=by unfold Prog.right at hr;simp at hr;refine⟨λd hd E=>?_,OB _ hr.2⟩;have:=hr.1 d hd;unfold Decl.right Decl.Ub at this;rw[A7 E]at this;simp only[Bh]at this;grind[OB]
def bS{p:Prog}{st:Bool}:∀{l:List Decl} {i:Nat},(Xb p st l i).bad=false->(Da ⟨p,st,[],[]⟩ p.main).2.bad=false
 |[],_,h=>h
 |x::l,i,h=>by
  rw[Xb]at h;cases E:Pm p i x with
  |some q=>rw[E]at h;cases h
  |none =>rw[E]at h;simp only at h;split at h;grind;exact bS h
end Go.iA
