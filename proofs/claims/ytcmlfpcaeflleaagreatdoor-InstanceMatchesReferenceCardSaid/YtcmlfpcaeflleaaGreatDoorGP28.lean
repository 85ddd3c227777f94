/- castingsref20.Expr -/
import Derived.Test.YtcmlfpcaeflleaaGreatDoorGP25
import Derived.Test.YtcmlfpcaeflleaaGreatDoorGT07
set_option linter.all false
set_option maxHeartbeats 4000000
set_option maxRecDepth 100000
namespace Go.Abs
open Go Go.Proofs
end Go.Abs
/- stencil.interfaceOf in general -/
namespace Go.Abs
open Go Go.Proofs
end Go.Abs
/- stencil.applied, whose parameters are the caller's own -/
namespace Go.Abs
open Go Go.Proofs
end Go.Abs
/- stencil.methodOf -/
namespace Go.Abs
open Go Go.Proofs
end Go.Abs
/- stencil.Type in general -/
namespace Go.Abs
open Go Go.Proofs
end Go.Abs
/- the types and calls of castingsref21.Find can be named -/
namespace Go.Abs
open Go
theorem Ty.Mg.arg{t:Ty}(h:t.Mg):∀u,u∈t.args->u.Mg:=λu E=>by
 cases h with
 |loc i p O=>simp[Ty.args]at E
 |Ys n a p J M L I=>exact I u E
structure A5.Mq(s:A5):Prop where
 A1:s.A1.length<=100000
 params:∀f,f∈s.params->f.type.Mg
 result:s.result.Mg
theorem A5.Ni.mq{B:Nat}{s:A5}(h:s.Ni B):s.Mq:=⟨by have:=h.A1.1;omega,λf E=>(h.params.2 f E).mg,h.result.mg⟩
theorem A5.Mq.subst{v:List A3}{I:List Ty}(E:∀u,u∈I->u.Mg){s:A5}(h:s.Mq):(s.subst v I).Mq:=by refine⟨by simp only[A5.subst,Bn];exact h.A1,λf J=>?_,Ty.Mg.subst E h.result⟩;obtain⟨x,L,rfl⟩:=B1.1 J;exact Ty.Mg.subst E (h.params x L)
theorem A5.Mq.canon{s:A5}(h:s.Mq):s.canon.Mq:=by
 have M:=h.A1;have hs:∀u,u∈Dg s.A1.length->u.Mg:=λu J=>by obtain⟨i,E,rfl⟩:=B1.1 J;exact D9y i (by have:=Aq9.1 E;omega)
 refine⟨by simp only[A5.canon,A1t];exact h.A1,λf I=>?_,Ty.Mg.subst hs h.result⟩;obtain⟨i,x,L,E,rfl⟩:=mem_mapIdx I;exact Ty.Mg.subst hs (h.params x (Br L))
theorem D6a{p:Prog}(hs:p.Sm)(ht:∀d,d∈p.decls->d.Tl)(hr:p.right=true){x:Ty}(U:∀u,u∈x.args->u.Mg):∀s,s∈Dk p [] x->s.Mq:=by
 intro s E;have key:∀{v:List A3} {y:A5},y.Ni 120000->(y.canon.subst v x.args).Mq:=λh=>A5.Mq.subst U h.mq.canon;have V:Cm [] x=none:=by simp[Cm,Ez,Dq]
 unfold Dk at E;rw[V]at E;simp only[Nh,Ky,I6,Fy]at E;split at E
 .rename_i O;unfold H8 at E;rw[A9 O]at E;obtain⟨d,M,_⟩:=Qa (by decide) O;rw[M,E1]at E;unfold Xx Io at E;obtain⟨⟨y,i⟩,J,rfl⟩:=B1.1 E;have L:=Hh (Uv (Kc.1 J).1);exact key ((Prog.D0h hs ht hr (Qc M)).1 y L)
 .unfold Gt at E;obtain⟨⟨d,i⟩,J,rfl⟩:=B1.1 E;have L:d∈p.decls:=Hh (Uv (Kc.1 J).1);have I:=(Kc.1 J).2;unfold Ke at I;simp only[Bc,Da]at I;exact key ((Prog.D0h hs ht hr L).2 (by first|exact I.1.1.1|exact I.1.1|exact I.1))
theorem D6d{p:Prog}(hs:p.Sm)(hr:p.right=true){x:Ty}(M:∀u,u∈x.args->u.Mg):∀f,f∈Bh p x->f.type.Mg:=by
 intro f E;unfold Bh at E;split at E
 .rename_i O;obtain⟨d,J,_⟩:=Qa (by decide) O;rw[J,E1]at E;unfold fieldsD at E;obtain⟨y,L,rfl⟩:=B1.1 E;have I:=Qc J;simp only[Prog.right,Bc,Dr]at hr;have h:=hr.1 d I;simp only[Decl.right,Vj,Bc,Dr]at h;exact Ty.Mg.subst M (Ty.B0h ((hs.decls.2 d I).fields.2 y L).type (h.2.2.1 y L).2)
 .simp at E
inductive Ex.Mq:Ex->Prop where
 |mk (e:Ex):(e.kind=3\/e.kind=5->e.type.Mg)->(∀t,t∈e.targs->t.Mg)->(∀x,x∈e.kids->Ex.Mq x)->Ex.Mq e
theorem Ex.Mq.type{e:Ex}(h:e.Mq):e.kind=3\/e.kind=5->e.type.Mg:=by cases h;assumption
theorem Ex.Mq.targs{e:Ex}(h:e.Mq):∀t,t∈e.targs->t.Mg:=by cases h;assumption
theorem Ex.Mq.kids{e:Ex}(h:e.Mq):∀x,x∈e.kids->x.Mq:=by cases h;assumption
theorem Ex.Mq.subst{v:List A3}{a:List Ty}(I:∀u,u∈a->u.Mg):∀{e:Ex},e.Mq->(e.subst v a).Mq:=by
 intro e
 induction e using Ex.induct with|_ e L=>?_
 intro h;rw[B4a];refine .mk _ (λJ=>Ty.Mg.subst I (h.type J)) (λt ht=>?_) λx M=>?_
 .obtain⟨u,E,rfl⟩:=B1.1 ht;exact Ty.Mg.subst I (h.targs u E)
 .obtain⟨u,E,rfl⟩:=B1.1 M;exact L u E (h.kids u E)
theorem Ex.D7z:∀{e:Ex},e.Sm->e.right=true->e.Mq:=by
 intro e
 induction e using Ex.induct with|_ e J=>?_
 intro hs h;rw[Ex.B9f,Bc,Bc]at h;refine .mk _ (λhk=>Ty.B0h hs.type ?_) (λt ht=>Ty.B0h (hs.targs.2 t ht) ?_) λx I=>J x I (hs.kids.2 x I) (B8e h.1 x I)
 .have E:=h.2.2;unfold Ex.Y3 at E;rw[A9 (by unfold Ex.typed;rcases hk with hk|hk <;> rw[hk] <;> rfl)]at E;simp only[Bc]at E;exact E.1.1
 .have E:=h.2.1;unfold Ex.B7v at E;rw[Dr]at E;have:=E t ht;simp only[Bc]at this;exact this.2
theorem G1t{c:C3}{e:Ex}{x:Ty}{g:A5}(h:Ly c e x=.inr g):g∈Dk c.p c.env x:=by
 unfold Ly at h;split at h
 .cases h
 .rename_i y E;split at h
  .cases h
  split at h
  .cases h
  split at h
  .cases h
  split at h
  .cases h
  cases h;exact Zq.1 (Br E)
theorem G3a{p:Prog}(hs:p.Sm)(ht:∀d,d∈p.decls->d.Tl)(hr:p.right=true){vars:List Param}(hv:∀f,f∈vars->f.type.Mg):∀e:Ex,e.Mq->(Di ⟨p,false,[],vars⟩ e).2.bad=false->(Di ⟨p,false,[],vars⟩ e).1.Mg:=by
 intro e
 induction e using Ex.induct with|_ e V=>?_
 intro O;rw[C3b];have M:∀(u z:Ty × Fj),u.1.Mg->T1 u=z->z.2.bad=false->z.1.Mg:=λu z hu hz E=>by
  unfold T1 at hz;split at hz
  .subst hz;cases E
  .subst hz;exact hu
 obtain⟨z,hz⟩:∃z,A2m ⟨p,false,[],vars⟩ e (e.kids.map (Di ⟨p,false,[],vars⟩))=z:=⟨_,rfl⟩;rw[hz];intro E;unfold A2m at hz;split at hz
 .unfold A6i at hz;split at hz
  .rename_i f U;split at hz
   .subst hz;cases E
   .subst hz;exact hv f (Br U)
  .subst hz;cases E
 split at hz
 .rename_i k3;unfold B5p at hz;split at hz
  .subst hz;cases E
  .split at hz
   .subst hz;cases E
   .subst hz;exact O.type (.inl k3)
 split at hz
 .subst hz;cases E
 rename_i hk;split at hz
 .subst hz;cases E
 .rename_i v zs J;cases L:e.kids with
  |nil=>rw[L]at J;simp at J
  |cons w ws =>
   rw[L]at J;simp only[Ck,Sj]at J;obtain⟨rfl,rfl⟩:=J;have hw:=V w (by rw[L];simp) (O.kids w (by rw[L];simp));clear V;generalize Di ⟨p,false,[],vars⟩ w=v at*;generalize ws.map (Di ⟨p,false,[],vars⟩)=zs at*;split at hz
   .rename_i I;rw[<-hz,I]at E;cases E
   .rename_i I;have W:=hw (by simpa using I);split at hz
    .unfold A7m at hz;split at hz
     .subst hz;cases E
     .rename_i g hg;have Z:=G1t hg;refine M _ z ?_ hz E;exact Ty.Mg.subst O.targs (D6a hs ht hr W.arg g Z).result
    split at hz
    .unfold A1a at hz;split at hz
     .subst hz;cases E
     .split at hz
      .rename_i f U;split at hz
       .subst hz;cases E
       .exact M (f.type,_) z (D6d hs hr W.arg f (Br U)) hz E
      .subst hz;cases E
    .rename_i k2 k4;unfold B6t at hz;split at hz
     .subst hz;cases E
     .split at hz
      .subst hz;cases E
      .subst hz;exact O.type (.inr (by omega))
structure Aj.Mq(s:Aj):Prop where
 types:∀t,t∈s.types->t.Mg
 calls:∀c,c∈s.calls->∀t,t∈c.targs->t.Mg
theorem Aj.Mq.lg{s:Aj}(h:s.Mq)(b:Bool):Aj.Mq { s with Cv:=b }:=⟨h.types,h.calls⟩
theorem foldI{α β:Type}{Q:β->Prop}{f:β->α->β}:∀(l:List α) {s:β},(∀s a,a∈l->Q s->Q (f s a))->Q s->Q (l.foldl f s)
 |[],_,_,h=>h
 |a::l,s,E,h=>foldI l (λs b I=>E s b (by simp[I])) (E s a (by simp) h)
theorem B3v{s:Aj}(hs:s.Mq){x:Ty}(E:x.Mg):(Dz s x).Mq:=by
 unfold Dz;split
 .exact⟨hs.types,hs.calls⟩
 .refine⟨λt ht=>?_,hs.calls⟩;rcases(Zh (cmp:=Cs) (x:=x) s.types).2 t ht with rfl|h
  .exact E
  .exact hs.types t h
theorem F4p{s:Aj}(hs:s.Mq){x:Ad}(E:∀t,t∈x.targs->t.Mg):(Fh s x).Mq:=by
 unfold Fh;split
 .exact⟨hs.types,hs.calls⟩
 .refine⟨hs.types,λt ht=>?_⟩;rcases(Zh (cmp:=Ba) (x:=x) s.calls).2 t ht with rfl|h
  .exact E
  .exact hs.calls t h
section
variable {p:Prog} (hs:p.Sm) (ht:∀d,d∈p.decls->d.Tl) (hr:p.right=true)
include hs ht hr
theorem D5t{vars:List Param}(M:∀f,f∈vars->f.type.Mg){s:Aj}(h:s.Mq){e:Ex}(L:e.Mq):(Md p s e vars).Mq:=by
 refine foldI _ (λs x E h=>?_) h;have E:=A8s (Q:=Ex.Mq) (λe h x E=>h.kids x E) e L x E;unfold Jh;split
 .exact B3v h (E.type (by assumption))
 split
 .split
  .exact h
  .rename_i v vs J;unfold P8;split
   .exact⟨h.types,h.calls⟩
   .rename_i I;exact F4p (x:=⟨(Di ⟨p,false,[],vars⟩ v).1,x.name,x.targs⟩) (B3v (h.lg _) (G3a hs ht hr M v (E.kids v (by rw[J];simp)) (by simpa using I))) E.targs
 .exact h
theorem H1g{s:Aj}(h:s.Mq){x:Ty}(hx:x.Mg){c:Ad}(hc:∀t,t∈c.targs->t.Mg):(No p s x c).Mq:=by
 have O:∀u,u∈J9 x c->u.Mg:=λu hu=>(D2.1 hu).elim (hx.arg u) (hc u);unfold No;rcases D7i p x c.name with M|⟨j,d,M,U,V⟩
 .rw[A9 M];exact h
 rw[M,A6 (by omega),Hs,U];have J:=Br U;have I:=hs.decls.2 d J;have E:d.right=true:=by unfold Prog.right at hr;simp only[Bc,Dr]at hr;exact hr.1 d J
 unfold Decl.right Decl.A2y at E;rw[A9 V]at E;simp only[Bc,Dr]at E;have L:=((Prog.D0h hs ht hr J).2 V).mq;refine D5t hs ht hr (λf Z=>?_) h (Ex.Mq.subst O (Ex.D7z I.body E.2.2.2.2.2.2.2.2));obtain⟨g,hg,rfl⟩:=B1.1 Z;refine Ty.Mg.subst O ?_;unfold H3 at hg;rcases Aw.1 hg with rfl|hg
 .refine .Ys _ _ _ E.1 I.name (by rw[E5,Bn];exact I.vars.1) λt ht=>?_;obtain⟨v,W,rfl⟩:=B1.1 ht;exact .Ys _ _ _ (E.2.2.2.2.1 v W) (I.vars.2 v W) (by simp) (by simp)
 .exact L.params g hg
theorem F2t{x:Ty}(O:x.Mg){out:Aj}(M:out.Mq){c:Ad}(L:∀t,t∈c.targs->t.Mg):(Ju p x out c).Mq:=by
 unfold Ju;split
 .exact M
 .rename_i g E;have I:g.Mq:=by
   unfold Km at E;split at E
   .cases E
   .split at E
    .cases E
    .rename_i V J;split at E
     .cases E;exact D6a hs ht hr O.arg _ (Zq.1 (Br J))
     .cases E
  refine H1g hs ht hr (B3v (foldI _ (λs t ht h=>?_) M) (Ty.Mg.subst L I.result)) O L;obtain⟨q,U,rfl⟩:=B1.1 ht;exact B3v h (Ty.Mg.subst L (I.params q U))
theorem G9u{s:Aj}(h:s.Mq):(Kw p s).Mq:=by
 refine foldI _ (λo x E I=>?_) h;have E:=h.types x E;refine foldI _ (λo c L I=>F2t hs ht hr E I (h.calls c L)) ?_;split
 .refine foldI _ (λs t ht h=>?_) I;obtain⟨f,J,rfl⟩:=B1.1 ht;exact B3v h (D6d hs hr E.arg f J)
 .exact I
theorem D5s:∀(k:Nat) {s:Aj} (n:Int),s.Mq->(Gm p k s n).1.Mq
 |0,_,_,_=>⟨by simp[Gm],by simp[Gm]⟩
 |k+1,s,n,h=>by
  have E:Aj.Mq Q9:=⟨by simp,by simp⟩;rw[Gm];split
  .split
   .exact E
   .exact h
  .split
   .exact E
   .exact D5s k _ (G9u hs ht hr h)
theorem C2o:(Cp p).1.Mq:=by
 have E:p.main.Mq:=by unfold Prog.right at hr;simp only[Bc]at hr;exact Ex.D7z hs.main hr.2
 exact D5s hs ht hr _ _ (D5t hs ht hr (by simp) ⟨by simp,by simp⟩ E)
end
theorem A7h{p:Prog}:∀(k:Nat)(s:Aj)(n:Int),(Gm p k s n).2=true->Sq (Gm p k s n).1=false
 |0,s,n,h=>by simp[Gm]at h
 |k+1,s,n,h=>by
  rw[Gm]at h |-;split at h
  .rename_i I;rw[A9 I];split at h
   .cases h
   .rename_i E;rw[A6 E];simpa using E
  .rename_i I;rw[A6 I];split at h
   .cases h
   .rename_i E;rw[A6 E];exact A7h k _ _ h
theorem B9d{s:Aj}(h:Sq s=false):s.types.length+s.calls.length<=60/\(∀t,t∈s.types->t.Cb<=3600)/\∀c,c∈s.calls->Ty.C4 c.targs<=3600:=by
 have E:=D7n h;unfold Sq at h;simp only[Uz,List.any_eq_false,Da]at h;refine⟨by unfold E7 at E;exact E,λt ht=>?_,λc J=>?_⟩
 .have I:=h.1 t ht;have:=Ty.A2x t 0 (by omega);omega
 .have I:=h.2.1 c J;have:=Ty.A2x (.mk [] c.targs 0) 0 (by omega);rw[Ty.Mw]at this;simp only[Ty.name,Ty.args,Dy]at this;omega
structure Aj.Fd(s:Aj):Prop where
 sm:s.Sm
 types:∀t,t∈s.types->t.Ni 12000
 targs:∀c,c∈s.calls->(∀t,t∈c.targs->t.Ni 12000)/\Ty.C4 c.targs<=3600
 len:s.types.length+s.calls.length<=60
theorem Aj.Fd.H4{p:Prog}{s:Aj}(h:s.Fd){x:Ty}(J:x∈s.types):∀c,c∈Go.Abs.H4 p s.calls x->c.Ni:=λc M=>by obtain⟨d,E,rfl⟩:=B1.1 M;have E:=(Kc.1 E).1;obtain⟨L,O⟩:=h.targs d E;have I:=h.sm.calls.2 d E;exact⟨⟨h.sm.types.2 x J,I.name,I.targs⟩,h.types x J,L,by show Ty.C4 d.targs<=_;omega⟩
end Go.Abs
/- bodies of instances: names that can be made of them; what the program and the reference make of them is the same up to places -/
namespace Go.Abs
open Go Go.Proofs
inductive Ex.Rs:Ex->Prop where
 |mk (e:Ex):(e.kind=3\/e.kind=5\/e.type.name=[]/\e.type.args=[])->(e.kind=2\/e.targs=[])->(∀x,x∈e.kids->Ex.Rs x)->Ex.Rs e
theorem Ex.Rs.type{e:Ex}(h:e.Rs):e.kind=3\/e.kind=5\/e.type.name=[]/\e.type.args=[]:=by cases h;assumption
theorem Ex.Rs.targs{e:Ex}(h:e.Rs):e.kind=2\/e.targs=[]:=by cases h;assumption
theorem Ex.Rs.kids{e:Ex}(h:e.Rs):∀x,x∈e.kids->x.Rs:=by cases h;assumption
theorem G8p{v:List A3}(J:([]:A3) ∉v){a:List Ty}{t:Ty}(E:t.name=[])(I:t.args=[]):t.subst v a=.mk [] [] t.pos:=by rw[Jd λ_=>Pu (by rw[E];exact J),E,I];rfl
theorem Ex.Rs.subst{v:List A3}(J:([]:A3) ∉v){a:List Ty}:∀{e:Ex},e.Rs->(e.subst v a).Rs:=by
 intro e
 induction e using Ex.induct with|_ e M=>?_
 intro h;rw[B4a];refine .mk _ ?_ ?_ λx O=>?_
 .rcases h.type with h|h|⟨I,L⟩
  .exact .inl h
  .exact .inr (.inl h)
  .exact .inr (.inr (by show(e.type.subst v a).name=[]/\(e.type.subst v a).args=[];rw[G8p J I L];exact⟨rfl,rfl⟩))
 .rcases h.targs with h|h
  .exact .inl h
  .exact .inr (by show e.targs.map _=[];rw[h];rfl)
 .obtain⟨u,E,rfl⟩:=B1.1 O;exact M u E (h.kids u E)
inductive Ex.Nq(B:Nat):Ex->Prop where
 |mk (e:Ex):(e.kind=3\/e.kind=5->e.type.Ni B)->(∀t,t∈e.targs->t.Ni B)->Ty.C4 e.targs<=B->(∀x,x∈e.kids->Ex.Nq B x)->Ex.Nq B e
theorem Ex.Nq.type{B:Nat}{e:Ex}(h:e.Nq B):e.kind=3\/e.kind=5->e.type.Ni B:=by cases h;assumption
theorem Ex.Nq.targs{B:Nat}{e:Ex}(h:e.Nq B):(∀t,t∈e.targs->t.Ni B)/\Ty.C4 e.targs<=B:=by cases h;exact⟨by assumption,by assumption⟩
theorem Ex.Nq.kids{B:Nat}{e:Ex}(h:e.Nq B):∀x,x∈e.kids->x.Nq B:=by cases h;assumption
theorem Ex.Mq.nq{B:Nat}:∀{e:Ex},e.Mq->e.A0c<=B->e.Nq B:=by
 intro e
 induction e using Ex.induct with|_ e I=>?_
 intro h J;rw[Ex.E5h]at J;refine .mk _ (λL=>⟨h.type L,by omega⟩) (λt ht=>⟨h.targs t ht,by have:=A5u ht;omega⟩) (by omega) λx E=>I x E (h.kids x E) (by have:=D9j E;omega)
theorem D9o{v:List A3}{J:List Ty}{M:Nat}(I:4<=M)(E:∀u,u∈J->u.Cb<=M):∀l:List Ty,4*Ty.C4 (l.map (Ty.subst v J))<=Ty.C4 l*M
 |[]=>by simp[Ty.C4]
 |x::l=>by have L:=D7f (v:=v) I E x;have O:=D9o (v:=v) I E l;rw[Ck,Ty.C4,Ty.C4,Gy];omega
theorem Ex.Nq.subst{B M:Nat}(J:4<=M){v:List A3}{a:List Ty}(I:∀u,u∈a->u.Ni M):∀{e:Ex},e.Nq B->(e.subst v a).Nq (B*M / 4):=by
 intro e
 induction e using Ex.induct with|_ e O=>?_
 intro h;rw[B4a];refine .mk _ (λL=>Ty.Ni.subst J I (h.type L)) (λt ht=>?_) ?_ λx U=>?_
 .obtain⟨u,E,rfl⟩:=B1.1 ht;exact Ty.Ni.subst J I (h.targs.1 u E)
 .rw[As8 (by decide),Uu];exact D3 (D9o J (λu E=>(I u E).len) e.targs) (I9 _ h.targs.2)
 .obtain⟨u,E,rfl⟩:=B1.1 U;exact O u E (h.kids u E)
theorem G2z{p:Prog}{x:Ty}{m:A3}{d:Decl}(h:Kq p x m=some d):d∈p.decls/\d.kind=3/\Ch p x 1=true/\d.vars.length=x.args.length:=by
 unfold Kq at h;split at h
 .rename_i I;split at h
  .rename_i L E;split at h
   .rename_i J;cases h;have:=At7 E;unfold Ka at this;simp only[Bc,Da]at this;exact⟨Am6 E,this.1.1,I,J⟩
   .cases h
  .cases h
 .cases h
theorem C6t(p:Prog)(x:Ty)(m:A3):(Lw p x m<0/\Kq p x m=none)\/∃(j:Nat)(d:Decl),Lw p x m=j/\p.decls[j]?=some d/\Kq p x m=some d:=by
 unfold Lw Kq;by_cases E:Ch p x 1=true
 .rw[A9 E,A9 E];unfold P3 Dq;cases h:p.decls.findIdx? (Ka x.name m)with
  |none =>
   rw[List.find?_eq_none.2 (by simpa [Ao2]using h)];left;refine⟨?_,rfl⟩;simp only;split
   .rw[A6 (by omega)];decide
   .decide
  |some j =>
   obtain⟨J,U,L⟩:=Ai3.1 h;have O:p.decls.find? (Ka x.name m)=some p.decls[j]:=As9.2 ⟨U,j,J,rfl,λk M=>by simpa using L k M⟩;rw[O];simp only[Hs,B8 J];by_cases I:p.decls[j].vars.length=x.args.length
   .rw[A9 ⟨by omega,I⟩,A9 I];exact .inr ⟨j,_,rfl,B8 J,rfl⟩
   .rw[A6 λh=>I h.2,A6 I];exact .inl ⟨by decide,rfl⟩
 .rw[A6 E,A6 E];exact .inl ⟨by decide,rfl⟩
theorem G5.one{P:Program}{f:FuncId}{args:List SV}{E:SV}(h:G5 P f args λr=>r=E):Ac P f args E :=
 ⟨h.1,λC β vs O U=>(h.2 C β vs O U).mono λ_ _ ⟨r,v,S',β',I,J,M,L⟩=>⟨v,S',β',J,M,I ▸ L⟩⟩
end Go.Abs
/- the set that castingsref21.Find returns is closed: all that its types and calls need is in it -/
namespace Go.Abs
open Go
def D5(t:Ty)(l:List Ty):Prop:=∃u,u∈l/\t.er=u.er
def Hv(c:Ad)(l:List Ad):Prop:=∃d,d∈l/\Ba c d=0
section
variable {α:Type} {cmp:α->α->Int} {x:α}
theorem B3f:∀{l:List α} {done:Bool} {out R:List α},G3 cmp x l done out=some R->(∀t,t∈out\/t∈l->t∈R)/\(done=false->x∈R)/\R.length=out.length+l.length+(if done=true then 0 else 1)
 |[],done,out,R,h=>by
  rw[G3]at h;cases h;cases done
  .exact⟨λt ht=>by simpa using H6 ht,λ_=>by simp,by simp⟩
  .exact⟨λt ht=>by simpa using ht,λh=>(by cases h),by simp⟩
 |t::l,done,out,R,h=>by
  rw[G3]at h;split at h
  .cases h
  split at h
  .rename_i I E;obtain⟨k1,_,k3⟩:=B3f h;refine⟨λu hu=>k1 u ?_,λ_=>k1 x (.inl (by simp)),?_⟩
   .rcases hu with hu|hu
    .exact .inl (by simp[hu])
    .rcases Aw.1 hu with rfl|hu
     .exact .inl (by simp)
     .exact .inr hu
   .rw[k3,E.2];simp;omega
  .obtain⟨k1,k2,k3⟩:=B3f h;refine⟨λu hu=>k1 u ?_,k2,?_⟩
   .rcases hu with hu|hu
    .exact .inl (by simp[hu])
    .rcases Aw.1 hu with rfl|hu
     .exact .inl (by simp)
     .exact .inr hu
   .rw[k3];simp;omega
theorem D0d:∀{l:List α} {done:Bool} {out:List α},G3 cmp x l done out=none->∃t,t∈l/\cmp x t=0
 |[],done,out,h=>by rw[G3]at h;cases h
 |t::l,done,out,h=>by
  rw[G3]at h;split at h
  .rename_i I;exact⟨t,by simp,I⟩
  split at h
  .obtain⟨u,E,h⟩:=D0d h;exact⟨u,by simp[E],h⟩
  .obtain⟨u,E,h⟩:=D0d h;exact⟨u,by simp[E],h⟩
theorem E7e(l:List α):∀t,t∈l->t∈J8 cmp l x:=λt ht=>by
 unfold J8;cases h:G3 cmp x l false []with
 |none=>exact ht
 |some R=>exact(B3f h).1 t (.inr ht)
theorem D2g(hr:cmp x x=0)(l:List α):∃t,t∈J8 cmp l x/\cmp x t=0:=by
 unfold J8;cases h:G3 cmp x l false []with
 |none=>exact D0d h
 |some R=>exact⟨x,(B3f h).2.1 rfl,hr⟩
theorem E3v(l:List α)(h:(J8 cmp l x).length=l.length):J8 cmp l x=l:=by
 unfold J8 at h |-;cases E:G3 cmp x l false []with
 |none=>rfl
 |some R =>have:=(B3f E).2.2;rw[E]at h;simp at this h;omega
theorem C4i(M:∀a b c,T3 (cmp a b) (cmp b c) (cmp a c))(L:∀a b,cmp b a = - cmp a b):∀{l:List α} {done:Bool} {out R:List α},G3 cmp x l done out=some R->(out++l).Pairwise (λa b=>cmp a b<0) ->
  (done=false->∀t,t∈out->cmp t x<0)->(done=true->True)->R.Pairwise λa b=>cmp a b<0
 |[],done,out,R,h,hp,ho,_=>by
  rw[G3]at h;cases h;rw[I8]at hp;cases done
  .simp only[I6,Fy];rw[Ap7];exact⟨hp,by simp,λa J b hb=>by rw[Ps.1 hb];exact ho rfl a J⟩
  .simpa using hp
 |t::l,done,out,R,h,hp,ho,hd=>by
  rw[G3]at h;split at h
  .cases h
  rename_i Z;split at h
  .rename_i E;refine C4i M L h ?_ (λh=>by cases h) λ_=>trivial;rw[N6];obtain⟨V,O,W⟩:=Ap7.1 hp;rw[Ap7];obtain⟨U,q2⟩:=Yy.1 O;refine⟨V,Yy.2 ⟨λu hu=>?_,O⟩,λa J b hb=>?_⟩
   .rcases Aw.1 hu with rfl|hu
    .exact E.1
    .exact(M x t u).1 E.1 (by have:=U u hu;omega)
   .rcases Aw.1 hb with rfl|hb
    .exact ho E.2 a J
    .exact W a J b hb
  .rename_i E;refine C4i M L h (by simpa using hp) (λI u hu=>?_) hd;rcases D2.1 hu with hu|hu
   .exact ho I u hu
   .rw[Ps.1 hu];have:=L x t;have:¬cmp x t<0:=λh=>E ⟨h,I⟩;omega
theorem D9u(I:∀a b c,T3 (cmp a b) (cmp b c) (cmp a c))(E:∀a b,cmp b a = - cmp a b){l:List α}(hp:l.Pairwise λa b=>cmp a b<0):(J8 cmp l x).Pairwise λa b=>cmp a b<0:=by
 unfold J8;cases h:G3 cmp x l false []with
 |none=>exact hp
 |some R=>exact C4i I E h (by simpa using hp) (by simp) (λh=>by cases h)
end
structure Aj.Ext(s r:Aj):Prop where
 types:∀t,t∈s.types->t∈r.types
 calls:∀c,c∈s.calls->c∈r.calls
 Cv:r.Cv=false->s.Cv=false
theorem Aj.Ext.refl(s:Aj):s.Ext s:=⟨λ_ h=>h,λ_ h=>h,λh=>h⟩
theorem Aj.Ext.trans{a b c:Aj}(h:a.Ext b)(k:b.Ext c):a.Ext c:=⟨λt ht=>k.types t (h.types t ht),λt ht=>k.calls t (h.calls t ht),λE=>h.Cv (k.Cv E)⟩
theorem D5.ext{s r:Aj}(h:s.Ext r){t:Ty}(k:D5 t s.types):D5 t r.types:=by obtain⟨u,E,e⟩:=k;exact⟨u,h.types u E,e⟩
theorem Hv.ext{s r:Aj}(h:s.Ext r){t:Ad}(k:Hv t s.calls):Hv t r.calls:=by obtain⟨u,E,e⟩:=k;exact⟨u,h.calls u E,e⟩
structure Fp(f:Aj->Aj):Prop where
 ext:∀s:Aj,s.Ext (f s)
 ge:∀s,E7 s<=E7 (f s)
 id:∀s,(f s).Cv=false->E7 (f s)=E7 s->f s=s
theorem Fp.one:Fp λs=>s:=⟨Aj.Ext.refl,λ_=>Bi _,λ_ _ _=>rfl⟩
theorem Fp.comp{f g:Aj->Aj}(E:Fp f)(I:Fp g):Fp λs=>g (f s) :=
 ⟨λs=>(E.ext s).trans (I.ext _),λs=>D3 (E.ge s) (I.ge _),λs J hs=>by have M:=E.ge s;have O:=I.ge (f s);have L:=I.id (f s) J (by omega);rw[L]at J hs |-;exact E.id s J hs⟩
theorem Fp.fold{α:Type}{f:Aj->α->Aj}:∀l:List α,(∀a,a∈l->Fp λs=>f s a)->Fp λs=>l.foldl f s
 |[],_=>Fp.one
 |a::l,h=>Fp.comp (h a (by simp)) (Fp.fold l λb E=>h b (by simp[E]))
theorem B5j{α:Type}{f:Aj->α->Aj}:∀(l:List α)(s:Aj),(∀a,a∈l->Fp λs=>f s a)->∀a,a∈l->∃J,(f J a).Ext (l.foldl f s)
 |[],_,_,_,h=>by simp at h
 |b::l,s,hs,a,h=>by
  rcases Aw.1 h with rfl|h
  .exact⟨s,(Fp.fold l λb I=>hs b (by simp[I])).ext _⟩
  .exact B5j l (f s b) (λc E=>hs c (by simp[E])) a h
theorem A3f(x:Ty):Fp λs=>Dz s x:=by
 refine⟨λs=>?_,λs=>B5a s x,λs E hs=>?_⟩
 .unfold Dz;split
  .exact⟨λ_ h=>h,λ_ h=>h,λh=>by cases h⟩
  .exact⟨λt ht=>E7e _ t ht,λ_ h=>h,λh=>h⟩
 .unfold Dz at E hs |-;split at E
  .cases E
  .rename_i I;rw[A6 I]at hs |-;simp only[E7]at hs;rw[E3v _ (by omega)]
theorem C1u(x:Ad):Fp λs=>Fh s x:=by
 refine⟨λs=>?_,λs=>E1r s x,λs E hs=>?_⟩
 .unfold Fh;split
  .exact⟨λ_ h=>h,λ_ h=>h,λh=>by cases h⟩
  .exact⟨λ_ h=>h,λt ht=>E7e _ t ht,λh=>h⟩
 .unfold Fh at E hs |-;split at E
  .cases E
  .rename_i I;rw[A6 I]at hs |-;simp only[E7]at hs;rw[E3v _ (by omega)]
theorem B2a{s:Aj}{x:Ty}(h:(Dz s x).Cv=false):D5 x (Dz s x).types:=by
 unfold Dz at h |-;split at h
 .cases h
 .rename_i E;rw[A6 E];obtain⟨t,ht,e⟩:=D2g (cmp:=Cs) (x:=x) ((Wd x x).2 rfl) s.types;exact⟨t,ht,(Wd x t).1 e⟩
theorem F9e{s:Aj}{x:Ad}(h:(Fh s x).Cv=false):Hv x (Fh s x).calls:=by
 unfold Fh at h |-;split at h
 .cases h
 .rename_i E;rw[A6 E];exact D2g (A0k x) s.calls
theorem G5y(e:Ex)(z:Ty × Fj):Fp λs=>P8 s e z:=by
 have I:Fp λs=>({ s with Cv:=s.Cv ||z.2.Cv }:Aj):=by
  refine⟨λs=>⟨λ_ h=>h,λ_ h=>h,λh=>?_⟩,λs=>Bi _,λs E _=>?_⟩
  .simp only[Uz]at h;exact h.1
  .simp only[Uz]at E;obtain⟨a,b,c⟩:=s;simp only at E |-;rw[E.1,E.2];rfl
 unfold P8;by_cases h:z.2.bad=true
 .simp only[h,Ae];exact I
 .simp only[h];exact Fp.comp I (Fp.comp (A3f z.1) (C1u _))
theorem E5s(p:Prog)(vars:List Param)(e:Ex):Fp λs=>Jh p vars s e:=by
 unfold Jh;by_cases I:e.kind=3\/e.kind=5
 .simp only[I,Ae];exact A3f e.type
 simp only[I,Fy];by_cases E:e.kind=2
 .simp only[E,Ae];cases e.kids with
  |nil=>exact Fp.one
  |cons v vs=>exact G5y e _
 .simp only[E,Fy];exact Fp.one
theorem G2w(p:Prog)(e:Ex)(vars:List Param):Fp λs=>Md p s e vars:=Fp.fold _ λa _=>E5s p vars a
theorem E2x(p:Prog)(x:Ty)(c:Ad):Fp λs=>No p s x c:=by
 unfold No;split
 .exact Fp.one
 .split
  .exact Fp.one
  .exact G2w p _ _
theorem E2h(l:List Ty):Fp λs=>Jg s l:=Fp.fold _ λa _=>A3f a
theorem B8f(p:Prog)(x:Ty)(c:Ad):Fp λs=>Ju p x s c:=by
 unfold Ju;cases Km p x c with
 |none=>exact Fp.one
 |some g=>exact Fp.comp (E2h _) (Fp.comp (A3f _) (E2x p x c))
theorem E6c(p:Prog)(s:Aj)(x:Ty):Fp λout=>Rf p s out x:=by
 unfold Rf;by_cases h:Ch p x 1=true
 .simp only[h,Ae];exact Fp.comp (E2h _) (Fp.fold _ λa _=>B8f p x a)
 .simp only[h];exact Fp.fold _ λa _=>B8f p x a
theorem E5p(p:Prog)(s:Aj):Fp λout=>s.types.foldl (Rf p s) out:=Fp.fold _ λa _=>E6c p s a
def Zy(p:Prog)(vars:List Param)(y:Ex)(r:Aj):Prop :=
 (y.kind=3\/y.kind=5->D5 y.type r.types)/\∀v vs,y.kind=2->y.kids=v::vs->(Di ⟨p,false,[],vars⟩ v).2.Cv=false /\
  ((Di ⟨p,false,[],vars⟩ v).2.bad=false->D5 (Di ⟨p,false,[],vars⟩ v).1 r.types/\Hv ⟨(Di ⟨p,false,[],vars⟩ v).1,y.name,y.targs⟩ r.calls)
theorem Zy.ext{p:Prog}{vars:List Param}{y:Ex}{s r:Aj}(h:s.Ext r)(k:Zy p vars y s):Zy p vars y r :=
 ⟨λL=>(k.1 L).ext h,λv vs E I=>⟨(k.2 v vs E I).1,λJ=>⟨((k.2 v vs E I).2 J).1.ext h,((k.2 v vs E I).2 J).2.ext h⟩⟩⟩
theorem F0u{p:Prog}{vars:List Param}{s:Aj}{y:Ex}(h:(Jh p vars s y).Cv=false):Zy p vars y (Jh p vars s y):=by
 unfold Jh at h |-;by_cases E:y.kind=3\/y.kind=5
 .simp only[E,Ae]at h |-;exact⟨λ_=>B2a h,λv vs L=>by omega⟩
 simp only[E,Fy]at h |-;refine⟨λM=>absurd M E,λv vs L O=>?_⟩;simp only[L,Ae,O]at h |-;unfold P8 at h |-;by_cases J:(Di ⟨p,false,[],vars⟩ v).2.bad=true
 .simp only[J,Ae,Uz]at h |-;exact⟨h.2,λh=>by cases h⟩
 .rw[A6 J]at h |-;have E:=(C1u _).ext _ |>.Cv h
  have I:=(A3f _).ext _ |>.Cv E
  simp only[Uz]at I;exact⟨I.2,λ_=>⟨(B2a E).ext ((C1u _).ext _),F9e h⟩⟩
theorem E7j{p:Prog}{vars:List Param}{s:Aj}{e:Ex}(h:(Md p s e vars).Cv=false):∀y,y∈Bg e->Zy p vars y (Md p s e vars):=λy E=>by obtain⟨I,hs⟩:=B5j (Bg e) s (λa _=>E5s p vars a) y E;exact(F0u (hs.Cv h)).ext hs
theorem E1h{s:Aj}{l:List Ty}(h:(Jg s l).Cv=false):∀t,t∈l->D5 t (Jg s l).types:=λt ht=>by obtain⟨E,hs⟩:=B5j l s (λa _=>A3f a) t ht;exact(B2a (hs.Cv h)).ext hs
def B6i(p:Prog)(x:Ty)(c:Ad)(r:Aj):Prop:=∀g,Km p x c=some g->(∀t,t∈Ks g c->D5 t r.types)/\D5 (Lg g c) r.types/\∀d,Kq p x c.name=some d->∀y,y∈Bg (Nw d x c)->Zy p (Ue p d x c) y r
theorem H1t{p:Prog}{x:Ty}{s:Aj}{c:Ad}(h:(Ju p x s c).Cv=false):B6i p x c (Ju p x s c):=by
 intro g Z;unfold Ju at h |-;rw[Z]at h |-;simp only at h |-;have J:=(E2x p x c).ext (Dz (Jg s (Ks g c)) (Lg g c));have M:=J.Cv h;have O:=(A3f (Lg g c)).ext (Jg s (Ks g c));have V:=O.Cv M;refine⟨λt ht=>((E1h V t ht).ext O).ext J,(B2a M).ext J,λd E y W=>?_⟩;unfold No at h |-;rcases C6t p x c.name with⟨_,I⟩|⟨j,d',U,L,I⟩
 .rw[I]at E;cases E
 .rw[I]at E;cases E;rw[U,A6 (by omega),Hs,L]at h |-;exact E7j h y W
structure Clo(p:Prog)(s:Aj):Prop where
 main:∀y,y∈Bg p.main->Zy p [] y s
 fields:∀x,x∈s.types->Ch p x 1=true->∀f,f∈Bh p x->D5 f.type s.types
 call:∀x,x∈s.types->∀c,c∈s.calls->B6i p x c s
 types:s.types.Pairwise λa b=>Cs a b<0
 calls:s.calls.Pairwise λa b=>Ba a b<0
theorem F4i{p:Prog}{s:Aj}(h:(Kw p s).Cv=false):(∀x,x∈s.types->Ch p x 1=true->∀f,f∈Bh p x->D5 f.type (Kw p s).types)/\∀x,x∈s.types->∀c,c∈s.calls->B6i p x c (Kw p s):=by
 have key:∀x,x∈s.types->∃o,(Rf p s o x).Ext (Kw p s):=λx J=>B5j s.types s (λa _=>E6c p s a) x J;refine⟨λx J W f U=>?_,λx J c hc=>?_⟩
 .obtain⟨o,E⟩:=key x J;have I:=E.Cv h;unfold Rf at E I;rw[A9 W]at E I;have M:=(Fp.fold s.calls λa _=>B8f p x a).ext (Jg o ((Bh p x).map (·.type)));exact((E1h (M.Cv I) f.type (B1.2 ⟨f,U,rfl⟩)).ext M).ext E
 .obtain⟨o,E⟩:=key x J;have I:=E.Cv h;unfold Rf at E I;obtain⟨o',L⟩:=B5j s.calls (if Ch p x 1=true then Jg o ((Bh p x).map (·.type))else o) (λa _=>B8f p x a) c hc;have e:=L.trans E;intro g Z;obtain⟨k1,k2,k3⟩:=H1t (e.Cv h) g Z;exact⟨λt ht=>(k1 t ht).ext e,k2.ext e,λd O y V=>(k3 d O y V).ext e⟩
structure Aj.Rr(s:Aj):Prop where
 types:s.types.Pairwise λa b=>Cs a b<0
 calls:s.calls.Pairwise λa b=>Ba a b<0
theorem Aj.Rr.lg{s:Aj}(h:s.Rr)(b:Bool):Aj.Rr { s with Cv:=b }:=⟨h.types,h.calls⟩
theorem B2i{s:Aj}(h:s.Rr)(x:Ty):(Dz s x).Rr:=by
 unfold Dz;split
 .exact⟨h.types,h.calls⟩
 .exact⟨D9u A3e Ww h.types,h.calls⟩
theorem G1e{s:Aj}(h:s.Rr)(x:Ad):(Fh s x).Rr:=by
 unfold Fh;split
 .exact⟨h.types,h.calls⟩
 .exact⟨h.types,D9u A1z Ru h.calls⟩
theorem E4e{p:Prog}{vars:List Param}{s:Aj}(h:s.Rr)(e:Ex):(Md p s e vars).Rr:=by
 refine foldI _ (λs y _ h=>?_) h;unfold Jh;split
 .exact B2i h _
 split
 .split
  .exact h
  .unfold P8;split
   .exact⟨h.types,h.calls⟩
   .exact G1e (B2i (h.lg _) _) _
 .exact h
theorem F5g{p:Prog}{s:Aj}(h:s.Rr):(Kw p s).Rr:=by
 refine foldI _ (λo x _ E=>foldI _ (λo c _ E=>?_) ?_) h
 .unfold Ju;split
  .exact E
  .refine(?_:Aj.Rr _);unfold No;have I:(Dz (Jg o (Ks ‹A5› c)) (Lg ‹A5› c)).Rr:=B2i (foldI _ (λs t _ h=>B2i h t) E) _;split
   .exact I
   split
   .exact I
   .exact E4e I _
 .split
  .exact foldI _ (λs t _ h=>B2i h t) E
  .exact E
theorem D2k{p:Prog}:∀(k:Nat)(s:Aj)(n:Int),s.Rr->(Gm p k s n).2=true->(n = -1\/∃E:Aj,s=Kw p E/\n=E7 E) ->
  s.Ext (Gm p k s n).1/\(Gm p k s n).1.Rr/\∃E:Aj,(Gm p k s n).1=Kw p E/\E7 E=E7 (Gm p k s n).1
 |0,s,n,_,h,_=>by simp[Gm]at h
 |k+1,s,n,hs,h,J=>by
  rw[Gm]at h |-;by_cases L:n=(E7 s:Int)
  .rw[A9 L]at h |-;split at h
   .cases h
   .rename_i I;rw[A6 I];refine⟨Aj.Ext.refl s,hs,?_⟩;rcases J with J|⟨E,V,W⟩
    .omega
    .exact⟨E,V,by simp only;omega⟩
  .rw[A6 L]at h |-;split at h
   .cases h
   .rename_i I;rw[A6 I];obtain⟨O,M,U⟩:=D2k k (Kw p s) (E7 s) (F5g hs) h (.inr ⟨s,rfl,rfl⟩);exact⟨((E5p p s).ext s).trans O,M,U⟩
theorem D3y{p:Prog}(h:(Cp p).2=true):Clo p (Cp p).1:=by
 have L:=A7h _ _ _ h;rw[show(Gm p 64 (Md p Q9 p.main []) (-1)).1=(Cp p).1 from rfl]at L;have I:(Cp p).1.Cv=false:=by unfold Sq at L;simp only[Uz]at L;exact L.2.2.1
 obtain⟨O,M,E,J,V⟩:=D2k 64 (Md p Q9 p.main []) (-1) (E4e ⟨by simp,by simp⟩ _) h (.inl rfl);rw[show(Gm p 64 (Md p Q9 p.main []) (-1)).1=(Cp p).1 from rfl]at O M J V;have e:Kw p E=E:=(E5p p E).id E (by show(Kw p E).Cv=false;rw[<-J];exact I) (by show E7 (Kw p E)=_;rw[<-J,V]);have Z:(Cp p).1=E:=J.trans e;have U:Kw p (Cp p).1=(Cp p).1:=by rw[Z];exact e
 obtain⟨k1,k2⟩:=F4i (p:=p) (s:=(Cp p).1) (by rw[U];exact I);rw[U]at k1 k2;exact⟨λy W=>(E7j (O.Cv I) y W).ext O,k1,k2,M.types,M.calls⟩
end Go.Abs
