/- castingsref20.Expr -/
import Derived.Test.YtieakoebgfiniaaGreatDoorZP25
import Derived.Test.YtieakoebgfiniaaGreatDoorZT07
set_option linter.all false
set_option maxHeartbeats 4000000
set_option maxRecDepth 100000
namespace Go.Abs
open Go Go.Proofs Tryz
mutual
def D6:Ex->Ex
 |.mk k n t a ks q=>.mk k (if k=2 then Gq n a else n) (.mk t.mg [] t.pos) [] (B6q ks) q
def B6q:List Ex->List Ex
 |[]=>[]
 |e::es=>D6 e::B6q es
end
theorem E5i:∀l:List Ex,B6q l=l.map D6
 |[]=>rfl
 |t::E=>by rw[B6q,E5i E,Ck]
theorem Za(e:Ex):D6 e=.mk e.kind (if e.kind=2 then Gq e.name e.targs else e.name) (.mk e.type.mg [] e.type.pos) [] (e.kids.map D6) e.pos:=by cases e with|mk k n t a ks q=>rw[D6,E5i];rfl
inductive Ex.Mx:Ex->Prop where
 |mk (k:Int) (n:A2) (t:Ty) (a:List Ty) (ks:List Ex) (q:Int):Aa Tryz.prog 66 [B7 t] (B7 (.mk t.mg [] t.pos))->(k=2->n.length<=60000000*sm/\a.length<=sm/\(∀t,t∈a->t.Mg)/\Ty.C0 a<=10000000000000) ->
   ks.length<=sm->(∀e,e∈ks->Ex.Mx e)->Ex.Mx (.mk k n t a ks q)
theorem Ex.Mx.kids  {e:Ex}(h:e.Mx):e.kids.length<=sm/\∀x,x∈e.kids->x.Mx:=by cases h;exact⟨by assumption,by assumption⟩
theorem Ex.Mx.type{e:Ex}(h:e.Mx):Aa Tryz.prog 66 [B7 e.type] (B7 (.mk e.type.mg [] e.type.pos)):=by cases h;assumption
theorem Ex.Mx.J6  {e:Ex}(h:e.Mx):e.kind=2->e.name.length<=60000000*sm/\e.targs.length<=sm/\(∀t,t∈e.targs->t.Mg)/\Ty.C0 e.targs<=10000000000000:=by cases h;assumption
abbrev Mh:List Nat:=[0,1,2,3,4,17,28,67]
theorem E5m:∀e:Ex,e.Mx->Aa Tryz.prog 26 [D3 e] (D3 (D6 e)):=by
 intro e
 induction e using Ex.induct with
 |h e Z =>
 intro O;have a0:=O.kids.1;have L:=O.type;rw[Za];by_cases k2:e.kind=2
 .have hx:D3 e=.agg [.d (.int .i64 2),.d (.str e.name),.d (.str e.type.name),.d (.slice (Ax e.type.args)),.d (.int .i64 e.type.pos),.d (.slice (Ax e.targs)),.d (.slice (Eb e.kids)),.d (.int .i64 e.pos)]:=by rw[<-k2]
  obtain⟨a1,a2,a3,a4⟩:=O.J6 k2;have W:=C7n e.name a1 e.targs a2 a3 a4;rw[A8 k2,k2,hx];refine cB func26 ?_;refine sR Mh ?_
  (refine sG Mh [] 11 gj λK z=>?_;refine ev ?_;refine cc L ?_;apply z;clear z K)
  refine kR Mh λU u1=>?_;refine A0.tt rfl ?_
  (refine lV Mh λK z=>?_;refine cc W ?_;apply z;clear z K;try simp only[A4,])
  refine u1 _ _ ?_;clear u1 U;refine A0.Rb 67 8 3 6 rfl rfl (by decide)<|kR Mh λU u1=>?_;refine A0.bb (A0.ii e.kids (X:=Unit) (λj _=>[(1,.box 1 0),(2,.box 2 0),(3,.box 3 0),(4,A5 j)])
   (λj _=>[(1,.cells [.d (.int .i64 2),.d (.str e.name),.d (.str e.type.name),.d (.slice (Ax e.type.args)),.d (.int .i64 e.type.pos),.d (.slice (Ax e.targs)),.d (.slice (Eb e.kids)),.d (.int .i64 e.pos)]),
    (2,.cells [.d (.int .i64 0),.d (.str []),.d (.str []),.d .nil,.d (.int .i64 0),.d .nil,.d .nil,.d (.int .i64 0)]),
    (3,.cells [.d (.int .i64 2),.d (.str (Gq e.name e.targs)),.d (.str e.type.mg),.d (.slice []),.d (.int .i64 e.type.pos),.d .nil,.acc 67,.d (.int .i64 e.pos)]),(67,.rows 8 (Eb ((e.kids.take j).map D6)))])
   (λj _=>True) () trivial sS (by simp[ble,A7,Pt];exact⟨rfl,rfl,rfl⟩) ?_ ?_)
  rotate_left
  .intro j _ d hd E dp tk J _;have V:=Z d E (O.kids.2 d E);rw[tk];refine Ai J Mh λI u2=>?_;refine gI u2 ?_;clear u2 I;refine sK λI u2=>A0.bb ?_
   (refine lG Mh [] 9 [] λK z=>?_;refine ev ?_;refine ci (G8 hd) ?_;refine cc V ?_;refine⟨by simp,by simp only[Bc,D4];unfold lim sm at*;omega,?_⟩;(try refine ev ?_);apply z;clear z K;try simp only[A4,Ac])
   refine u2 _ _ ?_;clear u2 I;refine lT Mh ?_;exact⟨(),trivial,sS,by simp[ble,A7,Pt,Cg]⟩
  intro _ _;rw[Ci];refine Ai B3 Mh λI u2=>?_;refine A0.ss rfl ?_;simp only[A4,Ac,Af];refine u1 _ _<|sR Mh ?_;exact aR
 .rw[A6 k2];refine cB func26 ?_;refine sR Mh ?_
  (refine sG Mh [] 11 gj λK z=>?_;refine ev ?_;refine cc L ?_;apply z;clear z K)
  refine Ai k2 Mh λU u1=>?_;refine A0.ff rfl (A0.kk (u1 _ _ ?_));clear u1 U;refine A0.Rb 67 8 3 6 rfl rfl (by decide)<|kR Mh λU u1=>?_;refine A0.bb (A0.ii e.kids (X:=Unit) (λj _=>[(1,.box 1 0),(2,.box 2 0),(3,.box 3 0),(4,A5 j)])
   (λj _=>[(1,.cells [.d (.int .i64 e.kind),.d (.str e.name),.d (.str e.type.name),.d (.slice (Ax e.type.args)),.d (.int .i64 e.type.pos),.d (.slice (Ax e.targs)),.d (.slice (Eb e.kids)),.d (.int .i64 e.pos)]),
    (2,.cells [.d (.int .i64 0),.d (.str []),.d (.str []),.d .nil,.d (.int .i64 0),.d .nil,.d .nil,.d (.int .i64 0)]),
    (3,.cells [.d (.int .i64 e.kind),.d (.str e.name),.d (.str e.type.mg),.d (.slice []),.d (.int .i64 e.type.pos),.d .nil,.acc 67,.d (.int .i64 e.pos)]),(67,.rows 8 (Eb ((e.kids.take j).map D6)))])
   (λj _=>True) () trivial sS (by simp[ble,A7,Pt];exact⟨rfl,rfl,rfl⟩) ?_ ?_)
  rotate_left
  .intro j _ d hd E dp tk J _;have V:=Z d E (O.kids.2 d E);rw[tk];refine Ai J Mh λI u2=>?_;refine gI u2 ?_;clear u2 I;refine sK λI u2=>A0.bb ?_
   (refine lG Mh [] 9 [] λK z=>?_;refine ev ?_;refine ci (G8 hd) ?_;refine cc V ?_;refine⟨by simp,by simp only[Bc,D4];unfold lim sm at*;omega,?_⟩;(try refine ev ?_);apply z;clear z K;try simp only[A4,Ac])
   refine u2 _ _ ?_;clear u2 I;refine lT Mh ?_;exact⟨(),trivial,sS,by simp[ble,A7,Pt,Cg]⟩
  intro _ _;rw[Ci];refine Ai B3 Mh λI u2=>?_;refine A0.ss rfl ?_;simp only[A4,Ac,Af];refine u1 _ _<|sR Mh ?_;exact aR
end Go.Abs
/- stencil.interfaceOf in general -/
namespace Go.Abs
open Go Go.Proofs Tryz
abbrev deI(nm:A2)(x:SV):List SV:=[.d (.int .i64 2),.d (.str nm),.d .nil,.d .nil,x,.d (.str []),.d .nil,.d (.str []),.d .nil,.d .nil,.d (.str []),.d .nil,.d (.int .i64 0),.d (.int .i64 0),.d (.int .i64 0),.d (.str []),.d (.str []),.d .nil,.d (.int .i64 0),.d .nil,.d .nil,.d (.int .i64 0),.d (.int .i64 0)]
def B5p(p:Prog)(calls:List B9)(x:Ty):List Decl:=if Bh p x 2=true then[headD 2 x.mg [] (calls.filterMap (Hk p)++(C7 p [] x).map Hd)]else[]
end Go.Abs
/- stencil.applied, whose parameters are the caller's own -/
namespace Go.Abs
open Go Go.Proofs Tryz
end Go.Abs
/- stencil.methodOf -/
namespace Go.Abs
open Go Go.Proofs Tryz
def Gm(ps E:List Param):List Param:=ps.zipWith (λa b=>⟨b.name,a.type,a.pos⟩) E
end Go.Abs
/- stencil.Type in general -/
namespace Go.Abs
open Go Go.Proofs Tryz
def B9h(M:B9->Option Decl)(p:Prog)(calls:List B9)(x:Ty):List Decl:=B7r M p calls x++B5p p calls x
end Go.Abs
/- the types and calls of castingsref21.Find can be named -/
namespace Go.Abs
open Go
theorem Ty.Mg.arg{t:Ty}(h:t.Mg):∀u,u∈t.args->u.Mg:=λu E=>by
 cases h with
 |loc i p L=>simp[Ty.args]at E
 |Pg n a p J O U I=>exact I u E
structure A3.Mq(s:A3):Prop where
 A1:s.A1.length<=100000
 params:∀f,f∈s.params->f.type.Mg
 result:s.result.Mg
theorem A3.Ni.mq{B:Nat}{s:A3}(h:s.Ni B):s.Mq:=⟨by have:=h.A1.1;omega,λf E=>(h.params.2 f E).mg,h.result.mg⟩
theorem A3.Mq.subst{v:List A2}{I:List Ty}(E:∀u,u∈I->u.Mg){s:A3}(h:s.Mq):(s.subst v I).Mq:=by refine⟨by simp only[A3.subst,Bc];exact h.A1,λf L=>?_,Ty.Mg.subst E h.result⟩;obtain⟨x,J,rfl⟩:=Au.1 L;exact Ty.Mg.subst E (h.params x J)
theorem A3.Mq.canon{s:A3}(h:s.Mq):s.canon.Mq:=by
 have O:=h.A1;have hs:∀u,u∈D8 s.A1.length->u.Mg:=λu I=>by
  obtain⟨i,L,rfl⟩:=Au.1 I
  grind[D3e]
 refine⟨by grind[A3.canon,Yf],λf J=>?_,Ty.Mg.subst hs h.result⟩;obtain⟨i,x,E,L,rfl⟩:=mem_mapIdx J;exact Ty.Mg.subst hs (h.params x (C6 E))
theorem E1w{p:Prog}(hs:p.Sm)(ht:∀d,d∈p.decls->d.Tl)(hr:p.right=true){x:Ty}(U:∀u,u∈x.args->u.Mg):∀s,s∈Cw p [] x->s.Mq:=by
 intro s E;have key:∀{v:List A2} {y:A3},y.Ni 120000->(y.canon.subst v x.args).Mq:=λh=>A3.Mq.subst U h.mq.canon;have O:Cs [] x=none:=by simp[Cs,Ep,Dr]
 unfold Cw at E;rw[O]at E;simp at E;split at E
 .rename_i I;unfold Gs at E;rw[A8 I]at E;obtain⟨d,hd,_⟩:=Mm (by decide) I;rw[hd,Dz]at E
  grind[Vm,Hn,Prog.B1e,P9]
 .unfold Gk at E;obtain⟨⟨d,i⟩,L,rfl⟩:=Au.1 E;have V:d∈p.decls:=Ji (W7 (Jz.1 L).1);have J:=(Jz.1 L).2;unfold Ii at J;simp at J
  grind[Prog.B1e]
theorem E2p{p:Prog}(hs:p.Sm)(hr:p.right=true){x:Ty}(L:∀u,u∈x.args->u.Mg):∀f,f∈Bx p x->f.type.Mg:=by
 intro f E;unfold Bx at E;split at E
 .rename_i O;obtain⟨d,hd,_⟩:=Mm (by decide) O;rw[hd,Dz]at E;unfold fieldsD at E;obtain⟨y,J,rfl⟩:=Au.1 E;have I:=P9 hd;simp only[Prog.right,Bb,Dm]at hr;have h:=hr.1 d I;simp only[Decl.right,Mb,Bb,Dm]at h;exact Ty.Mg.subst L (Ty.A6c ((hs.decls.2 d I).fields.2 y J).type (h.2.2.1 y J).2)
 grind
inductive Ex.Mq:Ex->Prop where
 |mk (e:Ex):(e.kind=3\/e.kind=5->e.type.Mg)->(∀t,t∈e.targs->t.Mg)->(∀x,x∈e.kids->Ex.Mq x)->Ex.Mq e
theorem Ex.Mq.type{e:Ex}(h:e.Mq):e.kind=3\/e.kind=5->e.type.Mg:=by cases h;omega
theorem Ex.Mq.targs{e:Ex}(h:e.Mq):∀t,t∈e.targs->t.Mg:=by cases h;omega
theorem Ex.Mq.kids{e:Ex}(h:e.Mq):∀x,x∈e.kids->x.Mq:=by cases h;omega
theorem Ex.Mq.subst{v:List A2}{a:List Ty}(I:∀u,u∈a->u.Mg):∀{e:Ex},e.Mq->(e.subst v a).Mq:=by
 intro e
 induction e using Ex.induct with|_ e O=>?_
 intro h;rw[Yr];refine .mk _ (λL=>Ty.Mg.subst I (h.type L)) (λt ht=>?_) λx J=>?_
 .obtain⟨u,E,rfl⟩:=Au.1 ht;exact Ty.Mg.subst I (h.targs u E)
 .obtain⟨u,E,rfl⟩:=Au.1 J;exact O u E (h.kids u E)
theorem Ex.B6j:∀{e:Ex},e.Sm->e.right=true->e.Mq:=by
 intro e
 induction e using Ex.induct with|_ e J=>?_
 intro hs h;rw[Ex.A2g,Bb,Bb]at h;refine .mk _ (λL=>Ty.A6c hs.type ?_) (λt ht=>Ty.A6c (hs.targs.2 t ht) ?_) λx I=>J x I (hs.kids.2 x I) (A7a h.1 x I)
 .have E:=h.2.2;unfold Ex.Ry at E;rw[A8 (by grind[Ex.typed])]at E
  grind
 .have E:=h.2.1;unfold Ex.B3v at E
  grind
theorem G9w{c:Cf}{e:Ex}{x:Ty}{g:A3}(h:Pp c e x=.inr g):g∈Cw c.p c.env x:=by
 unfold Pp at h;split at h
 .cases h
 .rename_i y E;split at h
  .cases h
  split at h
  .cases h
  split at h
  .cases h
  split at h
  .cases h
  cases h;exact Nt.1 (C6 E)
theorem F9g{p:Prog}(hs:p.Sm)(ht:∀d,d∈p.decls->d.Tl)(hr:p.right=true){vars:List Param}(hv:∀f,f∈vars->f.type.Mg):∀e:Ex,e.Mq->(Dk ⟨p,false,[],vars⟩ e).2.bad=false->(Dk ⟨p,false,[],vars⟩ e).1.Mg:=by
 intro e
 induction e using Ex.induct with|_ e ih=>?_
 intro O;rw[B6z];have L:∀(u z:Ty × F8),u.1.Mg->Rm u=z->z.2.bad=false->z.1.Mg:=λu z hu E I=>by grind[Rm]
 obtain⟨z,E⟩:∃z,A3b ⟨p,false,[],vars⟩ e (e.kids.map (Dk ⟨p,false,[],vars⟩))=z:=⟨_,rfl⟩;rw[E];intro I;unfold A3b at E;split at E
 .unfold A3y at E;split at E
  .rename_i f Z;split at E
   .subst E;cases I
   grind
  .subst E;cases I
 split at E
 .rename_i k3;unfold B4x at E;split at E
  .subst E;cases I
  .split at E
   .subst E;cases I
   .subst E;exact O.type (.inl k3)
 split at E
 .subst E;cases I
 rename_i hk;split at E
 .subst E;cases I
 .rename_i v zs J;cases U:e.kids with
  |nil=>grind
  |cons w ws =>
   rw[U]at J;simp at J;obtain⟨rfl,rfl⟩:=J;have hw:=ih w (by grind) (O.kids w (by grind));clear ih;generalize Dk ⟨p,false,[],vars⟩ w=v at*;generalize ws.map (Dk ⟨p,false,[],vars⟩)=zs at*;split at E
   .grind
   .rename_i W;have V:=hw (by grind);split at E
    .unfold A5g at E;split at E
     .subst E;cases I
     .rename_i g hg;have hm:=G9w hg;refine L _ z ?_ E I;exact Ty.Mg.subst O.targs (E1w hs ht hr V.arg g hm).result
    split at E
    .unfold Zy at E;split at E
     .subst E;cases I
     .split at E
      .rename_i f Z;split at E
       .subst E;cases I
       .exact L (f.type,_) z (E2p hs hr V.arg f (C6 Z)) E I
      .subst E;cases I
    .rename_i k2 k4;unfold B4m at E;split at E
     .subst E;cases I
     .split at E
      .grind
      .subst E;exact O.type (.inr (by omega))
structure An.Mq(s:An):Prop where
 types:∀t,t∈s.types->t.Mg
 calls:∀c,c∈s.calls->∀t,t∈c.targs->t.Mg
theorem An.Mq.lg{s:An}(h:s.Mq)(b:Bool):An.Mq { s with D9:=b }:=⟨h.types,h.calls⟩
theorem foldI{α β:Type}{Q:β->Prop}{f:β->α->β}:∀(l:List α) {s:β},(∀s a,a∈l->Q s->Q (f s a))->Q s->Q (l.foldl f s)
 |[],_,_,h=>h
 |a::l,s,E,h=>foldI l (λs b I=>E s b (by grind)) (E s a (by simp) h)
theorem B4r{s:An}(hs:s.Mq){x:Ty}(E:x.Mg):(Gp s x).Mq:=by
 unfold Gp;split
 .exact⟨hs.types,hs.calls⟩
 .refine⟨λt ht=>?_,hs.calls⟩;rcases(A4c (cmp:=E6) (x:=x) s.types).2 t ht with rfl|h
  .exact E
  .exact hs.types t h
theorem E9p{s:An}(hs:s.Mq){x:B9}(E:∀t,t∈x.targs->t.Mg):(Gj s x).Mq:=by
 unfold Gj;split
 .exact⟨hs.types,hs.calls⟩
 .refine⟨hs.types,λt ht=>?_⟩;rcases(A4c (cmp:=Dn) (x:=x) s.calls).2 t ht with rfl|h
  .exact E
  .exact hs.calls t h
section
variable {p:Prog} (hs:p.Sm) (ht:∀d,d∈p.decls->d.Tl) (hr:p.right=true)
include hs ht hr
theorem E0t{vars:List Param}(J:∀f,f∈vars->f.type.Mg){s:An}(h:s.Mq){e:Ex}(I:e.Mq):(Nc p s e vars).Mq:=by
 refine foldI _ (λs x E h=>?_) h;have E:=A8n (Q:=Ex.Mq) (λe h x E=>h.kids x E) e I x E;unfold Kv;split
 .exact B4r h (E.type (by omega))
 split
 .split
  .exact h
  .rename_i v vs L;unfold T0;split
   .exact⟨h.types,h.calls⟩
   .rename_i O;exact E9p (x:=⟨(Dk ⟨p,false,[],vars⟩ v).1,x.name,x.targs⟩) (B4r (h.lg _) (F9g hs ht hr J v (E.kids v (by grind)) (by grind))) E.targs
 omega
theorem E8v{s:An}(h:s.Mq){x:Ty}(Z:x.Mg){c:B9}(hc:∀t,t∈c.targs->t.Mg):(Qs p s x c).Mq:=by
 have W:∀u,u∈Jt x c->u.Mg:=λu hu=>(Bz.1 hu).elim (Z.arg u) (hc u);unfold Qs;rcases D3w p x c.name with U|⟨j,d,U,hd,O⟩
 .grind
 rw[U,A6 (by omega),Je,hd];have J:=C6 hd;have I:=hs.decls.2 d J;have E:d.right=true:=by unfold Prog.right at hr;simp at hr;exact hr.1 d J
 unfold Decl.right Decl.T2 at E;rw[A8 O]at E;simp only[Bb,Dm]at E;have L:=((Prog.B1e hs ht hr J).2 O).mq;refine E0t hs ht hr (λf hf=>?_) h (Ex.Mq.subst W (Ex.B6j I.body E.2.2.2.2.2.2.2.2));obtain⟨g,hg,rfl⟩:=Au.1 hf;refine Ty.Mg.subst W ?_;unfold Na at hg;rcases B1.1 hg with rfl|hg
 .refine .Pg _ _ _ E.1 I.name (by rw[H6,Bc];exact I.vars.1) λt ht=>?_;obtain⟨v,V,rfl⟩:=Au.1 ht;exact .Pg _ _ _ (E.2.2.2.2.1 v V) (I.vars.2 v V) (by simp) (by simp)
 .exact L.params g hg
theorem F7d{x:Ty}(O:x.Mg){out:An}(U:out.Mq){c:B9}(L:∀t,t∈c.targs->t.Mg):(Kg p x out c).Mq:=by
 unfold Kg;split
 .exact U
 .rename_i g E;have I:g.Mq:=by
   unfold Mu at E;split at E
   .cases E
   .split at E
    .cases E
    .rename_i W J;split at E
     .cases E;exact E1w hs ht hr O.arg _ (Nt.1 (C6 J))
     grind
  refine E8v hs ht hr (B4r (foldI _ (λs t ht h=>?_) U) (Ty.Mg.subst L I.result)) O L;obtain⟨q,V,rfl⟩:=Au.1 ht;exact B4r h (Ty.Mg.subst L (I.params q V))
theorem F4a{s:An}(h:s.Mq):(Kz p s).Mq:=by
 refine foldI _ (λo x E I=>?_) h;have E:=h.types x E;refine foldI _ (λo c J I=>F7d hs ht hr E I (h.calls c J)) ?_;split
 .refine foldI _ (λs t ht h=>?_) I;obtain⟨f,L,rfl⟩:=Au.1 ht;exact B4r h (E2p hs hr E.arg f L)
 omega
theorem D2x:∀(k:Nat) {s:An} (n:Int),s.Mq->(Hx p k s n).1.Mq
 |0,_,_,_=>⟨by simp[Hx],by simp[Hx]⟩
 |k+1,s,n,h=>by
  have E:An.Mq Sz:=⟨by simp,by simp⟩;rw[Hx];split
  .grind
  .split
   .exact E
   .exact D2x k _ (F4a hs ht hr h)
theorem G6c:(Km p).1.Mq:=by
 have E:p.main.Mq:=by unfold Prog.right at hr;simp only[Bb]at hr;exact Ex.B6j hs.main hr.2
 exact D2x hs ht hr _ _ (E0t hs ht hr (by simp) ⟨by simp,by simp⟩ E)
end
theorem C8d{p:Prog}:∀(k:Nat)(s:An)(n:Int),(Hx p k s n).2=true->Uj (Hx p k s n).1=false
 |0,s,n,h=>by rfl
 |k+1,s,n,h=>by
  rw[Hx]at h |-;split at h
  .grind
  .rename_i I;rw[A6 I];split at h
   .cases h
   .rename_i E;rw[A6 E];exact C8d k _ _ h
theorem F7e{s:An}(h:Uj s=false):s.types.length+s.calls.length<=60/\(∀t,t∈s.types->t.Dv<=3600)/\∀c,c∈s.calls->Ty.C0 c.targs<=3600:=by
 have E:=E2r h;unfold Uj at h;simp only[An6,List.any_eq_false,Dp]at h;refine⟨by unfold Ey at E;exact E,λt ht=>?_,λc J=>?_⟩
 .have I:=h.1 t ht;have:=Ty.A0z t 0 (by omega);omega
 .have I:=h.2.1 c J;have:=Ty.A0z (.mk [] c.targs 0) 0 (by omega)
  grind[Ty.Ug,Ty.args]
structure An.Fd(s:An):Prop where
 sm:s.Sm
 types:∀t,t∈s.types->t.Ni 12000
 targs:∀c,c∈s.calls->(∀t,t∈c.targs->t.Ni 12000)/\Ty.C0 c.targs<=3600
 len:s.types.length+s.calls.length<=60
 tl:∀t,t∈s.types->t.Dv<=3600
theorem E9h{p:Prog}(I:p.Fit)(ht:∀d,d∈p.decls->d.Tl)(hr:p.right=true)(h:(Km p).2=true):(Km p).1.Fd:=by have U:=C8d _ _ _ h;obtain⟨V,L,O⟩:=F7e U;have J:=G6c I.sm ht hr;refine⟨F9u I,λt ht=>⟨J.types t ht,by have:=L t ht;omega⟩,λc E=>⟨λt ht=>⟨J.calls c E t ht,?_⟩,O c E⟩,V,L⟩;have:=O c E;have:=A6a ht;omega
theorem An.Fd.Kk{p:Prog}{s:An}(h:s.Fd){x:Ty}(E:x∈s.types):∀c,c∈Go.Abs.Kk p s.calls x->c.Ni:=λc L=>by obtain⟨d,hd,rfl⟩:=Au.1 L;have hd:=(Jz.1 hd).1;obtain⟨J,O⟩:=h.targs d hd;have I:=h.sm.calls.2 d hd;exact⟨⟨h.sm.types.2 x E,I.name,I.targs⟩,h.types x E,J,by grind⟩
end Go.Abs
/- castingsref23.Type -/
namespace Go.Abs
open Go Go.Proofs Tryz
inductive Ex.Rs:Ex->Prop where
 |mk (e:Ex):(e.kind=3\/e.kind=5\/e.type.name=[]/\e.type.args=[])->(e.kind=2\/e.targs=[])->(∀x,x∈e.kids->Ex.Rs x)->Ex.Rs e
theorem Ex.Rs.type{e:Ex}(h:e.Rs):e.kind=3\/e.kind=5\/e.type.name=[]/\e.type.args=[]:=by cases h;omega
theorem Ex.Rs.targs{e:Ex}(h:e.Rs):e.kind=2\/e.targs=[]:=by cases h;omega
theorem Ex.Rs.kids{e:Ex}(h:e.Rs):∀x,x∈e.kids->x.Rs:=by cases h;omega
theorem Ex.D5p:∀{e:Ex},e.right=true->e.Rs:=by
 intro e
 induction e using Ex.induct with|_ e J=>?_
 intro h;rw[Ex.A2g,Bb,Bb]at h;refine .mk _ ?_ ?_ λx I=>J x I (A7a h.1 x I)
 .have E:=h.2.2;unfold Ex.Ry at E;split at E
  .rename_i ht;unfold Ex.typed at ht
   grind
  grind
 .have E:=h.2.1;unfold Ex.B3v at E;rw[Dm]at E;cases ht:e.targs with
  |nil=>simp
  |cons t L =>simp_all
theorem E7r{v:List A2}(I:([]:A2) ∉v){a:List Ty}{t:Ty}(J:t.name=[])(E:t.args=[]):t.subst v a=.mk [] [] t.pos:=by grind[Iq,P4]
theorem C7v(q:Int):(Ty.mk [] [] q).mg=[]:=by rfl
theorem Ex.Rs.subst{v:List A2}(U:([]:A2) ∉v){a:List Ty}:∀{e:Ex},e.Rs->(e.subst v a).Rs:=by
 intro e
 induction e using Ex.induct with|_ e L=>?_
 intro h;rw[Yr];refine .mk _ ?_ ?_ λx I=>?_
 .rcases h.type with h|h|⟨J,O⟩
  .exact .inl h
  .exact .inr (.inl h)
  .exact .inr (.inr (by show(e.type.subst v a).name=[]/\(e.type.subst v a).args=[];rw[E7r U J O];exact⟨rfl,rfl⟩))
 .rcases h.targs with h|h
  .exact .inl h
  .exact .inr (by show e.targs.map _=[];grind)
 .obtain⟨u,E,rfl⟩:=Au.1 I;exact L u E (h.kids u E)
inductive Ex.Nq(B:Nat):Ex->Prop where
 |mk (e:Ex):(e.kind=3\/e.kind=5->e.type.Ni B)->(∀t,t∈e.targs->t.Ni B)->Ty.C0 e.targs<=B->(∀x,x∈e.kids->Ex.Nq B x)->Ex.Nq B e
theorem Ex.Nq.type{B:Nat}{e:Ex}(h:e.Nq B):e.kind=3\/e.kind=5->e.type.Ni B:=by cases h;omega
theorem Ex.Nq.targs{B:Nat}{e:Ex}(h:e.Nq B):(∀t,t∈e.targs->t.Ni B)/\Ty.C0 e.targs<=B:=by cases h;grind
theorem Ex.Nq.kids{B:Nat}{e:Ex}(h:e.Nq B):∀x,x∈e.kids->x.Nq B:=by cases h;omega
theorem Ex.Mq.nq{B:Nat}:∀{e:Ex},e.Mq->e.Sp<=B->e.Nq B:=by
 intro e
 induction e using Ex.induct with|_ e J=>?_
 intro h I;rw[Ex.C3p]at I;refine .mk _ (λL=>⟨h.type L,by omega⟩) (λt ht=>⟨h.targs t ht,by have:=A6a ht;omega⟩) (by omega) λx E=>J x E (h.kids x E) (by have:=C6t E;omega)
theorem D9u{v:List A2}{I:List Ty}{M:Nat}(E:4<=M)(J:∀u,u∈I->u.Dv<=M):∀l:List Ty,4*Ty.C0 (l.map (Ty.subst v I))<=Ty.C0 l*M
 |[]=>by simp[Ty.C0]
 |x::l=>by
  have L:=E2n (v:=v) E J x;have O:=D9u (v:=v) E J l
  grind[Ty.C0,Nat.add_mul]
theorem Ex.Nq.subst{B M:Nat}(I:4<=M){v:List A2}{a:List Ty}(J:∀u,u∈a->u.Ni M):∀{e:Ex},e.Nq B->(e.subst v a).Nq (B*M / 4):=by
 intro e
 induction e using Ex.induct with|_ e U=>?_
 intro h;rw[Yr];refine .mk _ (λO=>Ty.Ni.subst I J (h.type O)) (λt ht=>?_) ?_ λx L=>?_
 .obtain⟨u,E,rfl⟩:=Au.1 ht;exact Ty.Ni.subst I J (h.targs.1 u E)
 .rw[Nat.le_div_iff_mul_le (by decide),Ap7];exact Cp (D9u I (λu E=>(J u E).len) e.targs) (Hp _ h.targs.2)
 .obtain⟨u,E,rfl⟩:=Au.1 L;exact U u E (h.kids u E)
theorem Decl.A7i(d:Decl)(n:Int)(h0:0<=n)(h:d.count n<=2000):d.body.Sp<=240000:=by
 unfold Decl.count at h;generalize E:n+1+((d.name.length / 50:Nat):Int)+((d.recv.length / 50:Nat):Int)=m at h;obtain⟨U,V⟩:=C3j d.A1 m;obtain⟨b1,I⟩:=C7k d.fields (C5 d.A1 m);obtain⟨L,W⟩:=D6u d.sigs (D2 d.fields (C5 d.A1 m));obtain⟨e1,O⟩:=A2z d.vars (En d.sigs (D2 d.fields (C5 d.A1 m)));generalize Z:Ix d.vars (En d.sigs (D2 d.fields (C5 d.A1 m)))=z at*;unfold Decl.S6 at h;obtain⟨f1,_⟩:=A3.Gt d.sig z;split at h
 .have J:=Ex.B5f d.body (d.sig.count z) h;omega
 .omega
theorem F9q:Nj J3 (λd=>d.body.Sp<=240000):=Mw J3 Decl.count (λd=>d.body.Sp<=240000) (λ_=>rfl) (λ_ _ _=>rfl) (λx k=>(Decl.Gt x k).1) (λx k E h=>Decl.A7i x k E h)
theorem Prog.A7i(p:Prog)(h:p.count<=600):(∀d,d∈p.decls->d.body.Sp<=240000)/\p.main.Sp<=240000:=by
 unfold Prog.count at h;have L:=Ex.F6 p.main 0;obtain⟨E,I⟩:=F9q p.decls (p.main.count 0);have J:=Ex.B5f p.main 0 (by omega)
 grind
def Ir(F:Ex->Ex)(p:Prog)(c:B9):Option Decl:=match Jr p c.on c.name with
 |none=>none
 |some d=>match Hk p c with
  |none=>none
  |some g=>some ⟨3,c.on.mg,[],[],[],d.recv,[],⟨g.name,[],Gm g.params d.sig.params,g.result,0⟩,F (My d c.on c),0⟩
theorem C5g{p:Prog}(hr:p.right=true){d:Decl}(hd:d∈p.decls)(I:d.kind=3):(∀v,v∈d.vars->isName v=true)/\(∀f,f∈d.sig.A1->isName f.name=true)/\d.body.right=true:=by
 have E:d.right=true:=by unfold Prog.right at hr;simp at hr;exact hr.1 d hd
 unfold Decl.right Decl.T2 at E;rw[A8 I]at E;simp only[Bb,Dm]at E;refine⟨E.2.2.2.2.1,?_,E.2.2.2.2.2.2.2.2⟩;have:=E.2.2.2.2.2.2.2.1;simp only[A3.right,Pr,Mb,Bb,Dm]at this
 grind
theorem E1s{p:Prog}(hr:p.right=true){d:Decl}(hd:d∈p.decls)(E:d.kind=3):([]:A2) ∉Mr d:=by
 obtain⟨J,O,_⟩:=C5g hr hd E;intro h;rcases Bz.1 h with h|h
 .grind[isName]
 .obtain⟨f,I,L⟩:=Au.1 h
  grind[isName]
theorem A2n{p:Prog}{x:Ty}{m:A2}{d:Decl}(h:Jr p x m=some d):d∈p.decls/\d.kind=3/\Bh p x 1=true/\d.vars.length=x.args.length:=by
 unfold Jr at h;split at h
 .rename_i I;split at h
  .rename_i L E;split at h
   .rename_i J;cases h;have:=At2 E;unfold Fk at this
    grind
   grind
  grind
 grind
theorem C0w(p:Prog)(x:Ty)(m:A2):(Kb p x m<0/\Jr p x m=none)\/∃(j:Nat)(d:Decl),Kb p x m=j/\p.decls[j]?=some d/\Jr p x m=some d:=by
 unfold Kb Jr;by_cases E:Bh p x 1=true
 .rw[A8 E,A8 E];unfold N1 Dr;cases h:p.decls.findIdx? (Fk x.name m)with
  |none =>grind
  |some j =>
   obtain⟨I,J,U⟩:=Ah1.1 h;have L:p.decls.find? (Fk x.name m)=some p.decls[j]:=As3.2 ⟨J,j,I,rfl,λk O=>by grind⟩
   grind
 grind
theorem F5n{c:B9}(E:c.Ni):∀u,u∈Jt c.on c->u.Ni 12000:=λu I=>(Bz.1 I).elim (E.on.args u) (E.targs u)
theorem C0i{p:Prog}(V:p.count<=600)(hs:p.Sm)(hr:p.right=true){d:Decl}(hd:d∈p.decls)(J:d.kind=3){c:B9}(I:c.Ni):(My d c.on c).Nq 720000000/\(My d c.on c).Sm/\(My d c.on c).Rs:=by obtain⟨_,_,L⟩:=C5g hr hd J;have E:=(hs.decls.2 d hd).body;have U:=(Ex.B6j E L).nq ((Prog.A7i p V).1 d hd);refine⟨Ex.Nq.subst (B:=240000) (M:=12000) (by decide) (F5n I) U,Ex.Sm.subst (λu O=>(Bz.1 O).elim (I.sm.on.arg u) (I.sm.targs.2 u)) _ E,Ex.Rs.subst (E1s hr hd J) (Ex.D5p L)⟩
theorem H0s{p:Prog}{c:B9}{g:A3}(h:Hk p c=some g):¬Fb (C7 p [] c.on) c.name<0/\∃s,(C7 p [] c.on)[(Fb (C7 p [] c.on) c.name).toNat]?=some s/\s∈C7 p [] c.on/\s.name=c.name/\s.A1.length=c.targs.length/\g=E1 c s:=by grind[Hk,B0s,Fb,N4]
def H2(p:Prog)(cs:List B9)(x:Ty):List Decl:=B9h (Ir D6 p) p (Wk p cs x).calls x
theorem D0r{p:Prog}{cs:List B9}{x:Ty}:∀c,c∈Kk p cs x->c.on=x:=λc h=>by obtain⟨d,_,rfl⟩:=Au.1 h;rfl
theorem A4a.one{P:Program}{f:FuncId}{args:List SV}{E:SV}(h:A4a P f args λr=>r=E):Aa P f args E :=
 ⟨h.1,λC β vs J V=>(h.2 C β vs J V).mono λ_ _ ⟨r,v,S',β',U,I,L,O⟩=>⟨v,S',β',I,L,U ▸ O⟩⟩
end Go.Abs

namespace Go.Abs
open Go Go.Proofs Tryz
abbrev Tv:List Nat:=[0,1,2,3,4,5,6,7,8,9,10,11,33,64,900]
theorem G1g(p:Prog)(h:p.Sm)(ht:∀d,d∈p.decls->d.Tl)(hr:p.right=true)(c:B9)(J:c.Ni)(s:A3)(h0:¬Fb (C7 p [] c.on) c.name<0)(hs:(C7 p [] c.on)[(Fb (C7 p [] c.on) c.name).toNat]?=some s)(hl:s.A1.length=c.targs.length) :
  C8 Tryz.prog 69 [Ct p,caV c] [] (.tuple [.agg (agS (E1 c s).name (E1 c s).result.name (.acc 900)),Aw true]) [(900,.rows 5 (Av (E1 c s).params))]:=by
 have L:=A5h h ht hr J.sm.on J.on.args;have hS:=A5z p h [] (by simp) (by simp) c.on J.sm.on;have V:=Wi h [] c.on;have hF:=B1g (C7 p [] c.on) c.name V;have E:=@C2g (C7 p [] c.on) c.name;rw[show Dr (λs:A3=>decide (s.name=c.name)) (C7 p [] c.on)=Fb (C7 p [] c.on) c.name from rfl]at hF;generalize C7 p [] c.on=l at*;generalize Fb l c.name=n at*;obtain⟨s',Z,a1⟩:=E h0;rw[hs]at Z;cases Z;have ab:0<=n:=by omega
 have aa:n<l.length:=by have:=(Az.1 hs).1;omega
 have I:=L s a1;have a0:(s.A1.length:Int)=(c.targs.length:Int):=by omega
 have W:=R3 s.A1 I.sm.A1.1;rw[show s.A1.map (·.name)=Ad s.A1 from rfl]at W;have hM:=C7n c.name J.sm.name c.targs J.sm.targs.1 (λt h=>(J.targs t h).mg) (by have:=J.tl;omega);have a5:=Pm (Ad s.A1) c.targs J.sm.targs.2 s.result I.sm.result;have hq:=A3.Ni.subst (v:=Ad s.A1) (by decide:4<=12000) J.targs J.sm.targs.2 I;have hP:=B4p (s.result.subst (Ad s.A1) c.targs) hq.result.mg (Cp hq.result.len (by decide));have ac:=I.params.1;have a8:=I.params.2;have a3:=I.sm.params.2;have e1:E1 c s=⟨Gq c.name c.targs,[],H9 (s.params.map (Param.subst (Ad s.A1) c.targs)),Pd (s.result.subst (Ad s.A1) c.targs),0⟩:=rfl;rw[e1];show C8 Tryz.prog 69 [Ct p,caV c] [] (.tuple [.agg (agS (Gq c.name c.targs) (s.result.subst (Ad s.A1) c.targs).mg (.acc 900)),Aw true]) [(900,.rows 5 (Av (H9 (s.params.map (Param.subst (Ad s.A1) c.targs)))))];generalize s.result.subst (Ad s.A1) c.targs=rt at*;generalize Gq c.name c.targs=nm at*;generalize a':Ad s.A1=nn at*;refine bB func69 ?_;refine sR Tv ?_;refine sC hS Tv ?_;refine sC hF Tv<|sK λK1 u1=>?_
 (refine sG Tv [] 12 [] λK z=>?_;refine Ap h0 ?_;refine⟨by omega,_,D1 hs,rfl,?_⟩;(try refine Ap a0 ?_);apply z;clear z K)
 refine kI u1 ?_;clear u1 K1
 (refine sV Tv λK z=>?_;refine ci (D1 hs) ?_;refine cc W ?_;apply z;clear z K)
 (refine sG Tv [] 17 gg λK z=>?_;refine ev ?_;refine cc hM ?_;refine ci (D1 hs) ?_;refine cc a5 ?_;refine cc hP ?_;apply z;clear z K)
 refine A0.Rb 900 5 9 2 rfl rfl (by decide)<|kR Tv λK1 u1=>?_;refine A0.bb (A0.ii s.params (X:=Unit) (λj _=>[(3,.box 3 0),(4,.box 4 0),(6,.d (.slice (B0 l))),(7,A5 n),(8,Cc nn),(9,.box 9 0),(10,A5 j)])
  (λj _=>[(3,.cells (caS c)),(4,.cells [.d (.str []),.d .nil,.d .nil,.d (.str []),.d .nil,.d (.int .i64 0),.d (.int .i64 0)]),(9,.cells (agS nm rt.mg (.acc 900))),(900,.rows 5 (Av (H9 ((s.params.take j).map (Param.subst nn c.targs)))))])
  (λ_ _=>True) () trivial sS (by simp[ble,A7,Av,H9];exact⟨rfl,rfl,rfl⟩) ?_ ?_)
 rotate_left
 .intro j _ d hd E dp tk a6 _;have hj:=(Az.1 hd).1;have hit:=C1c j (by unfold sm;omega);have a9:=Lib.itoa_length_le j (by omega) (by omega);rw[<-Vt]at hit;have U:=Ty.Ni.subst (v:=nn) (by decide:4<=12000) J.targs (a8 d E);have a4:=Pm nn c.targs J.sm.targs.2 d.type (a3 d E).type;have a2:=B4p (d.type.subst nn c.targs) U.mg (by have:=U.len;omega);have a7:(s.params.map (Param.subst nn c.targs))[j]?=some (Param.subst nn c.targs d):=by rw[Df,hd];rfl
  have e2:Av (H9 ((s.params.take (j+1)).map (Param.subst nn c.targs)))=Av (H9 ((s.params.take j).map (Param.subst nn c.targs)))++[G9 ⟨[112]++Lib.itoa (j:Nat),Pd (d.type.subst nn c.targs),0⟩]:=by rw[List.map_take,E4g a7,List.map_take];simp[Av,Param.subst]
  have e3:(Av (H9 ((s.params.take j).map (Param.subst nn c.targs)))).length=j:=by rw[A7g,A7u,Bc,D4];omega
  rw[e2];generalize Av (H9 ((s.params.take j).map (Param.subst nn c.targs)))=PR at*;generalize d.type.subst nn c.targs=dt at*;generalize Lib.itoa (j:Nat)=ds at*;refine sK λO u2=>?_
  (refine sV Tv λK z=>?_;refine⟨by omega,_,D1 hs,rfl,?_⟩;(try refine Ap a6 ?_);apply z;clear z K)
  refine gI u2 ?_;clear u2 O;refine sK λO u2=>A0.bb ?_
  (refine sG Tv [] 14 gh λK z=>?_;refine ev ?_;refine ci (D1 hs) ?_;refine ci (Du hd) ?_;refine cc a4 ?_;apply z;clear z K)
  (refine lG Tv [] 9 [] λK z=>?_;refine ev ?_;refine cc hit ?_;refine⟨by(try simp only[B6,Bg,Ca]);unfold lim;omega,?_⟩;(try refine Ap e3 ?_);refine⟨_,.inl ⟨_,rfl,a2,rfl⟩,?_⟩;(try refine Ap e3 ?_);refine⟨by simp,by(try simp only[e3]);unfold lim;omega,?_⟩;(try refine Ap e3 ?_);apply z;clear z K;try simp only[A4,Ac])
  refine u2 _ _ ?_;clear u2 O
  (refine lV Tv λK z=>?_;refine cl ?_;apply z;clear z K;try simp only[A4,])
  exact⟨(),trivial,sS,by simp[ble,A7,G9]⟩
 intro _ _;rw[Ci];refine sK λO u2=>?_
 (refine sV Tv λK z=>?_;refine⟨by omega,_,D1 hs,rfl,?_⟩;(try refine Ap B3 ?_);apply z;clear z K)
 refine A0.ss rfl ?_;simp only[A4,Ac,Af];refine u1 _ _ ?_;clear u2 O u1 K1;refine sR Tv ?_;exact A0.ret ⟨_,by rw[results69];rfl,.inl rfl,by simp[ble,A7]⟩
abbrev B8d:List Nat:=[0,2,3,4,17,21,28,44]
theorem H4s:Aa Tryz.prog 35 [Bm []] (A5 (-1)):=by
 obtain⟨s,hs⟩:∃s:A2,s=[]:=⟨_,rfl⟩;rw[<-hs];have E:(s.length:Int)<2:=by rw[hs];decide
 clear hs;refine cB func35 ?_;refine sR B8d ?_;refine sR B8d ?_;refine Ai E B8d λI u1=>?_;refine tI ?_;refine sR B8d ?_;exact aR
theorem H3g(q:Int):Aa Tryz.prog 12 [B7 (.mk [] [] q)] (Bm []):=by
 have J:=H4s;have E:=B9v [] (by decide);have I:=C6n [] (by decide) (by simp[Ty.C0]) (by simp);have O:Ew []=[]:=by simp[Ew]
 have L:Jb []=[]:=by simp[Jb]
 rw[O]at E;rw[L]at I;show Aa Tryz.prog 12 [.agg [.d (.str []),.d (.slice (Ax [])),.d (.int .i64 q)]] (Bm []);refine cB func12 ?_;refine sR [0,1,2,3,14] ?_;refine sC J [0,1,2,3,14] ?_;refine kR [0,1,2,3,14] λU u1=>?_;refine kI u1 ?_;clear u1 U
 (refine sG [0,1,2,3,14] [] 5 [] λK z=>?_;refine ev ?_;refine cc E ?_;refine cc I ?_;apply z;clear z K)
 exact aR
theorem G4w(q:Int):Aa Tryz.prog 66 [B7 (.mk [] [] q)] (B7 (.mk (Ty.mk [] [] q).mg [] q)):=by
 have E:=H3g q;rw[C7v];show Aa Tryz.prog 66 [.agg [.d (.str []),.d (.slice (Ax [])),.d (.int .i64 q)]] (B7 (.mk [] [] q));refine cB func66 ?_;refine sR [0,1,2] ?_
 (refine sG [0,1,2] [] 4 [] λK z=>?_;refine ev ?_;refine cc E ?_;apply z;clear z K)
 exact aR
theorem E3z{B:Nat}(hB:B<=10000000000000):∀{e:Ex},e.Sm->e.Nq B->e.Rs->e.Mx:=by
 intro e
 induction e using Ex.induct with|_ e Z=>?_
 intro hs h hr;obtain⟨k,n,t,a,ks,q⟩:=e;have J:=h.type;have L:=h.targs;have h3:=h.kids;have U:=hr.type;have W:=hr.kids;refine .mk _ _ _ _ _ _ ?_ (λE=>⟨hs.name,hs.targs.1,λu V=>(L.1 u V).mg,by have:=L.2;simp only[Ex.targs]at this;omega⟩) hs.kids.1 λx I=>Z x I (hs.kids.2 x I) (h3 x I) (W x I);by_cases E:(Ex.mk k n t a ks q).kind=3\/(Ex.mk k n t a ks q).kind=5
 .exact E9f t (J E).mg (by have:=(J E).len;simp only[Ex.type]at this;omega)
 .have:=(U.resolve_left λh=>E (.inl h)).resolve_left λh=>E (.inr h);obtain⟨tn,ta,O⟩:=t;simp only[Ex.type,Ty.name,Ty.args]at this;obtain⟨rfl,rfl⟩:=this;exact G4w O
theorem C8b{p:Prog}{s:An}(h:s.Fd){x:Ty}(I:x∈s.types):(Wk p s.calls x).calls.length<=sm/\∀c,c∈(Wk p s.calls x).calls->c.on=x/\c.Ni:=by
 have O:=B8a p s.calls x;have U:=h.len;have J:∀c,c∈(Wk p s.calls x).calls->c∈Kk p s.calls x:=λc E=>by obtain⟨_,L,_⟩:=B4j (Kk p s.calls x) ⟨[],[],false⟩ (by simp[Sr]) (by simp only[Ca];omega);exact(L c E).elim id λh=>by simp at h
 refine⟨(D0n (Kk p s.calls x) (s:=⟨[],[],false⟩) ⟨by simp,by simp⟩ (F6g (h.sm.types.2 x I) h.sm.calls.2)).calls.1,λc E=>⟨D0r c (J c E),h.Kk I c (J c E)⟩⟩
theorem H3j{ps E:List Param}{i:Nat}{q e:Param}(V:ps[i]?=some q)(O:E[i]?=some e)(U:ps.drop i=q::ps.drop (i+1))(tk:ps.take (i+1)=ps.take i++[q])(L:(Gm (ps.take i) E).length=i) :
  Av (Gm (ps.take (i+1)) E++ps.drop (i+1))=(Av (Gm (ps.take i) E++ps.drop i)).set i (Gy (G9 q) 0 [.str e.name]):=by
 have Z:=(Az.1 V).1;have J:=(Az.1 O).1;have W:Gm (ps.take (i+1)) E=Gm (ps.take i) E++[⟨e.name,q.type,q.pos⟩]:=by
  unfold Gm;rw[tk,show E=E.take i++(e::E.drop (i+1)) by
   conv=>lhs;rw[<-Uz i E]
   rw[Gb J,(Az.1 O).2]]
  rw[List.zipWith_append (by simp;omega)];have:(ps.take i).zipWith (λa b:Param=>(⟨b.name,a.type,a.pos⟩:Param)) (E.take i++(e::E.drop (i+1)))=(ps.take i).zipWith (λa b:Param=>(⟨b.name,a.type,a.pos⟩:Param)) (E.take i):=by
   conv=>lhs;rw[<-Fj (ps.take i)]
   rw[List.zipWith_append (by simp;omega)];simp
  rw[this];simp
 rw[W,U];have I:(Av (Gm (ps.take i) E)).length=i:=by rw[A7g];exact L
 simp only[Av,G0,Ck,Ga,Jq,Vi]at I |-;rw[List.set_append_right _ _ (by omega),I,Au7,List.set_cons_zero];rfl
abbrev Ch:List Nat:=[0,1,2,3,4,5,6,7,8,9,10,11,12,13,14,15,16,17,18,19,20,21,22,23,24,25,26,27,28,40,46,58,68,86,95,116,120,145,155,170,179,207,901,902]
set_option maxHeartbeats 8000000 in
theorem G0e(p:Prog)(hp:p.count<=600)(hr:p.right=true){s:An}(h:s.Fd)(x:Ty)(hx:x∈s.types):Aa Tryz.prog 27 [Ct p,Jh s,B7 x] (.d (.slice (C1 (H2 p s.calls x)))):=by
 have E:=Prog.X8 p hp;have a5:=Prog.To p hp;have a0:=h.sm.types.2 x hx;have a9:=h.types x hx;have hT:=Yi x a9.mg (by have:=a9.len;omega);have hM:=F8y p E.sm s h.sm x a0;have hS:=A5z p E.sm [] (by simp) (by simp) x a0;simp only[show Ag ([]:List Ah)=[] from rfl]at hS;have a3:=A2u p x 2;have a8:=A2u p x 1;obtain⟨bs,az⟩:=C8b (p:=p) h hx;have bo:=Wi E.sm [] x;have ai:=A5h E.sm a5 hr a0 a9.args;unfold H2 B9h B7r B5p;generalize(Wk p s.calls x).calls=C at*;cases ae:Bh p x 2 with
 |true =>
  have a1:¬Bh p x 1=true:=λhh=>by have:=(Ps ae).1;have:=(Ps hh).1;omega
  rw[ae]at a3;rw[A6 a1,A8 rfl,Vi];generalize x.mg=nm at*;generalize C7 p [] x=ss at*;refine cB func27 ?_;refine sR Ch ?_;refine sC hT Ch ?_;refine sC hM Ch ?_;refine sC hS Ch ?_;refine kC a3 Ch λU u1=>?_;refine tI ?_;clear u1 U;refine sR Ch ?_;refine A0.Rb 902 7 10 4 rfl rfl (by decide)<|kR Ch λU u1=>?_;refine A0.bb (A0.ii C (X:=Unit) (λj _=>[(3,.box 3 0),(8,.d (.slice (Mn C))),(9,.d (.slice (B0 ss))),(10,.box 10 0),(11,A5 j)])
   (λj _=>[(3,.cells ((Aj p).map .d)),(10,.cells (deI nm (.acc 902))),(902,.rows 7 (B0 ((C.take j).filterMap (Hk p))))])
   (λ_ _=>True) () trivial sS (by simp[ble,A7,B0,Aj]) ?_ ?_)
  rotate_left
  .intro j _ c W I dp tk O _;have hj:=(Az.1 W).1;have hm:=D2p p E.sm a5 hr c (az c I).2;have e2:B0 ((C.take (j+1)).filterMap (Hk p))=B0 ((C.take j).filterMap (Hk p))++B0 (Hk p c).toList:=by
    rw[J0 hj,(Az.1 W).2,List.filterMap_append];cases V:Hk p c <;> simp[B0,V]
   have e3:(B0 ((C.take j).filterMap (Hk p))).length<=j:=by simp only[B0,Bc];have:=Ai3 (Hk p) (C.take j);rw[D4]at this;omega
   rw[e2];generalize B0 ((C.take j).filterMap (Hk p))=PR at*;refine sK λJ u2=>?_
   (refine sQ Ch λK z=>?_;simp -implicitDefEqProofs only[EV,Nat.reduceEqDiff,reduceCtorEq,Jd,O,L9];apply z;clear z K)
   refine gI u2 ?_;clear u2 J;refine sK λJ u2=>A0.bb ?_;cases V:Hk p c with
   |none =>
    rw[V]at hm;unfold sgR at hm
    (refine sG Ch [] 11 gi λK z=>?_;refine ev ?_;refine⟨by omega,_,J4 W,rfl,?_⟩;(try simp -implicitDefEqProofs only[EV,Nat.reduceAdd,Nat.reduceEqDiff,Nat.reduceBEq,reduceCtorEq,H3]);refine cc hm ?_;apply z;clear z K)
    refine sR Ch ?_;refine A0.ff rfl (A0.kk (u2 _ _ ?_));clear u2 J;refine lT Ch ?_;exact⟨(),trivial,sS,by simp[ble,A7,B0,Aj,V]⟩
   |some d =>
    rw[V]at hm;unfold sgR at hm
    (refine sG Ch [] 11 gi λK z=>?_;refine ev ?_;refine⟨by omega,_,J4 W,rfl,?_⟩;(try simp -implicitDefEqProofs only[EV,Nat.reduceAdd,Nat.reduceEqDiff,Nat.reduceBEq,reduceCtorEq,H3]);refine cc hm ?_;apply z;clear z K)
    refine sR Ch ?_;refine A0.tt rfl ?_
    (refine lV Ch λK z=>?_;refine⟨by simp,by unfold lim sm at*;omega,?_⟩;(try refine ev ?_);apply z;clear z K;try simp only[A4,Ac])
    refine u2 _ _ ?_;clear u2 J;refine lT Ch ?_;exact⟨(),trivial,sS,by simp[ble,A7,B0,Dd,Aj,V]⟩
  intro _ _;rw[Ci];have au:=Ai3 (Hk p) C;generalize bv:C.filterMap (Hk p)=cm at*;refine sK λJ u2=>?_
  (refine sQ Ch λK z=>?_;simp -implicitDefEqProofs only[EV,Nat.reduceEqDiff,reduceCtorEq,Jd,B3,L9];apply z;clear z K)
  refine A0.ss rfl ?_;simp only[A4,Ac,Af];refine u1 _ _ ?_;clear u2 J u1 U;refine kR Ch λU u1=>?_;refine A0.bb (A0.ii ss (X:=Unit) (λj _=>[(9,.d (.slice (B0 ss))),(10,.box 10 0),(14,A5 j)])
   (λj _=>[(10,.cells (deI nm (.acc 902))),(902,.rows 7 (B0 (cm++(ss.take j).map Hd)))])
   (λ_ _=>True) () trivial sS sB ?_ ?_)
  rotate_left
  .intro j _ s hs I dp tk O _;have hj:=(Az.1 hs).1;have ag:=ai s I;have ad:=E1r s (A3.Ni.dum (ag.mono (by decide)));have e2:B0 (cm++(ss.take (j+1)).map Hd)=B0 (cm++(ss.take j).map Hd)++[Dd (Hd s)]:=by
    rw[J0 hj,(Az.1 hs).2];simp[B0]
   have e3:(B0 (cm++(ss.take j).map Hd)).length<=2*sm+1:=by simp only[B0,Bc,B6,D4];omega
   rw[e2];generalize B0 (cm++(ss.take j).map Hd)=PR at*;generalize Hd s=g at*;refine Ai O Ch λJ u2=>?_;refine gI u2 ?_;clear u2 J;refine sK λJ u2=>A0.bb ?_
   (refine lG Ch [] 8 [] λK z=>?_;refine ev ?_;refine ci (D1 hs) ?_;refine cc ad ?_;refine⟨by simp,by unfold lim sm at*;omega,?_⟩;(try refine ev ?_);apply z;clear z K;try simp only[A4,Ac])
   refine u2 _ _ ?_;clear u2 J;refine lT Ch ?_;exact⟨(),trivial,sS,by simp[ble,A7,Dd]⟩
  intro _ _;rw[Ci];refine Ai B3 Ch λJ u2=>?_;refine A0.ss rfl ?_;simp only[A4,Ac,Af];refine u1 _ _ ?_;clear u2 J u1 U
  (refine A0.Lw 902 rfl (wk [(10,.box 10 0)] [(10,.cells (deI nm (.d (.slice (B0 (cm++ss.map Hd))))))] ?_))
  refine sR Ch ?_;exact aR
 |false =>
 rw[ae]at a3;rw[A6 (by simp:¬false=true),Fj];cases a1:Bh p x 1 with
 |false =>rw[a1]at a8;rw[A6 (by simp),show C1 []=[] from rfl];refine cB func27 ?_;refine sR Ch ?_;refine sC hT Ch ?_;refine sC hM Ch ?_;refine sC hS Ch ?_;refine kC a3 Ch λU u1=>?_;refine kI u1 ?_;clear u1 U;refine kC a8 Ch λU u1=>?_;refine tI ?_;refine sR Ch ?_;exact aR
 |true =>
 have hF:=B5x p E.sm x a0 a1;rw[a1]at a8;rw[A8 rfl];have b5:=F6f a5 hr E.sm a9.args;have bu:(Bx p x).length<=sm:=B2x E.sm x;have bt:=a0.len;have bh:=E.sm.decls.1;generalize b6:x.mg=nm at*;generalize Bx p x=fs at*;generalize C7 p [] x=ss at*;refine cB func27 ?_;refine sR Ch ?_;refine sC hT Ch ?_;refine sC hM Ch ?_;refine sC hS Ch ?_;refine kC a3 Ch λU u1=>?_;refine kI u1 ?_;clear u1 U;refine kC a8 Ch λU u1=>?_;refine kI u1 ?_;clear u1 U;refine sR Ch ?_;refine A0.Rb 901 5 15 3 rfl rfl (by decide)<|sC hF Ch ?_;refine kR Ch λU u1=>?_;refine A0.bb (A0.ii fs (X:=Unit) (λj _=>[(3,.box 3 0),(5,.box 5 0),(7,Bm nm),(8,.d (.slice (Mn C))),(9,.d (.slice (B0 ss))),(15,.box 15 0),(16,.d (.slice (Av fs))),(17,A5 j)])
  (λj _=>[(3,.cells ((Aj p).map .d)),(5,.cells (Pa x)),(15,.cells (deH nm (.acc 901))),(901,.rows 5 (Av (J9 (fs.take j))))])
  (λ_ _=>True) () trivial sS (by simp[ble,A7,Av,J9,Aj]) ?_ ?_)
 rotate_left
 .intro j _ d hd I dp tk O _;have hj:=(Az.1 hd).1;have aw:=b5 d I;have be:=B4p d.type aw.mg (by have:=aw.len;omega);have e3:(Av (J9 (fs.take j))).length=j:=by simp only[Av,J9,Bc,D4];omega
  rw[E8t hd];generalize Av (J9 (fs.take j))=PR at*;refine Ai O Ch λJ u2=>?_;refine gI u2 ?_;clear u2 J;refine sK λJ u2=>A0.bb ?_
  (refine lG Ch [] 15 [] λK z=>?_;refine ev ?_;refine ci (Du hd) ?_;refine ci (Du hd) ?_;refine⟨_,.inl ⟨_,rfl,be,rfl⟩,?_⟩;(try refine Ap e3 ?_);refine⟨by simp,by(try simp only[e3]);unfold lim sm at*;omega,?_⟩;(try refine Ap e3 ?_);apply z;clear z K;try simp only[A4,Ac])
  refine u2 _ _ ?_;clear u2 J;refine lT Ch ?_;exact⟨(),trivial,sS,by simp[ble,A7,G9,Aj]⟩
 intro _ _;rw[Ci];refine Ai B3 Ch λJ u2=>?_;refine A0.ss rfl ?_;simp only[A4,Ac,Af];refine u1 _ _ ?_;clear u2 J u1 U
 (refine A0.Lw 901 rfl (wk [(3,.box 3 0),(5,.box 5 0),(7,Bm nm),(8,.d (.slice (Mn C))),(9,.d (.slice (B0 ss))),(15,.box 15 0)] [(3,.cells ((Aj p).map .d)),(5,.cells (Pa x)),(15,.cells (deH nm (.d (.slice (Av (J9 fs))))))] ?_))
 (refine A0.D7 Ch [116] (by decide +kernel) λK z=>?_;refine ev ?_;apply z;clear z K)
 refine kR Ch λU u1=>?_;refine A0.bb (A0.ii C (X:=Unit) (λj _=>[(3,.box 3 0),(5,.box 5 0),(7,Bm nm),(8,.d (.slice (Mn C))),(9,.d (.slice (B0 ss))),(18,.acc 116),(19,A5 j)])
  (λj _=>[(3,.cells ((Aj p).map .d)),(5,.cells (Pa x)),(116,.rows 23 (C1 (headD 1 nm (J9 fs) []::(C.take j).filterMap (Ir D6 p))))])
  (λ_ _=>True) () trivial sS ⟨rfl,rfl,rfl,trivial⟩ ?_ ?_)
 rotate_left
 .intro j _ c W I dp tk O _;have hj:=(Az.1 W).1;obtain⟨af,a6⟩:=az c I;have a4:=C4u p bh x c.name;have e2:C1 (headD 1 nm (J9 fs) []::(C.take (j+1)).filterMap (Ir D6 p))=C1 (headD 1 nm (J9 fs) []::(C.take j).filterMap (Ir D6 p))++C1 (Ir D6 p c).toList:=by
   rw[J0 hj,(Az.1 W).2,List.filterMap_append];cases V:Ir D6 p c <;> simp[C1,V]
  have e3:(C1 (headD 1 nm (J9 fs) []::(C.take j).filterMap (Ir D6 p))).length<=j+1:=by simp only[C1,Bc,Bg];have:=Ai3 (Ir D6 p) (C.take j);rw[D4]at this;omega
  rw[e2];generalize C1 (headD 1 nm (J9 fs) []::(C.take j).filterMap (Ir D6 p))=PR at*;refine sK λJ u2=>?_
  (refine sQ Ch λK z=>?_;simp -implicitDefEqProofs only[EV,Nat.reduceEqDiff,reduceCtorEq,Jd,O,L9];apply z;clear z K)
  refine gI u2 ?_;clear u2 J;refine A0.C6v λK3 u3 a'=>A0.bb ?_;have skip:Ir D6 p c=none->K3 [(3,.box 3 0),(5,.box 5 0),(7,Bm nm),(8,.d (.slice (Mn C))),(9,.d (.slice (B0 ss))),(18,.acc 116),(19,A5 j)] [(3,.cells ((Aj p).map .d)),(5,.cells (Pa x)),(116,.rows 23 PR)]:=by intro hn;refine u3 _ _<|lT Ch ?_;exact⟨(),trivial,sS,by simp[ble,A7,hn,C1,Aj]⟩
  have hG:Ir D6 p c=match Jr p x c.name with
   |none=>none
   |some d=>match Hk p c with
    |none=>none
    |some g=>some ⟨3,nm,[],[],[],d.recv,[],⟨g.name,[],Gm g.params d.sig.params,g.result,0⟩,D6 (My d x c),0⟩:=by
   unfold Ir;rw[af,b6] <;> rfl
  have L:=D2p p E.sm a5 hr c a6;rcases C0w p x c.name with⟨h1,h2⟩|⟨i,d,h1,b8,h2⟩
  .rw[h2]at hG;generalize Kb p x c.name=k at*;cases ho:Hk p c with
   |none =>
    rw[ho]at L;unfold sgR at L
    (refine sG Ch [] 7 [] λK z=>?_;refine ev ?_;refine⟨by omega,_,J4 W,rfl,?_⟩;(try simp -implicitDefEqProofs only[EV,Nat.reduceAdd,Nat.reduceEqDiff,reduceCtorEq,H3]);refine cc a4 ?_;apply z;clear z K)
    (refine sG Ch [] 11 gf λK z=>?_;refine ev ?_;refine⟨by omega,_,J4 W,rfl,?_⟩;(try simp -implicitDefEqProofs only[EV,Nat.reduceAdd,Nat.reduceEqDiff,Nat.reduceBEq,reduceCtorEq,H3]);refine cc L ?_;apply z;clear z K)
    refine Ai h1 Ch λK4 u4=>?_;refine A0.tt rfl (A0.xx ?_);simp only[A4,Ac,Af];exact a' sS (by simp[ble,A7,Aj]) (skip hG)
   |some g =>
    rw[ho]at L;unfold sgR at L
    (refine sG Ch [] 7 [] λK z=>?_;refine ev ?_;refine⟨by omega,_,J4 W,rfl,?_⟩;(try simp -implicitDefEqProofs only[EV,Nat.reduceAdd,Nat.reduceEqDiff,reduceCtorEq,H3]);refine cc a4 ?_;apply z;clear z K)
    (refine sG Ch [] 11 gf λK z=>?_;refine ev ?_;refine⟨by omega,_,J4 W,rfl,?_⟩;(try simp -implicitDefEqProofs only[EV,Nat.reduceAdd,Nat.reduceEqDiff,Nat.reduceBEq,reduceCtorEq,H3]);refine cc L ?_;apply z;clear z K)
    refine Ai h1 Ch λK4 u4=>?_;refine A0.tt rfl (A0.xx ?_);simp only[A4,Ac,Af];exact a' sS (by simp[ble,A7,Aj]) (skip hG)
  rw[h2]at hG;simp only at hG;rw[h1]at a4;have ax:¬(i:Int)<0:=by omega
  cases ho:Hk p c with
  |none =>
   rw[ho]at L hG;unfold sgR at L
   (refine sG Ch [] 7 [] λK z=>?_;refine ev ?_;refine⟨by omega,_,J4 W,rfl,?_⟩;(try simp -implicitDefEqProofs only[EV,Nat.reduceAdd,Nat.reduceEqDiff,reduceCtorEq,H3]);refine cc a4 ?_;apply z;clear z K)
   (refine sG Ch [] 11 gf λK z=>?_;refine ev ?_;refine⟨by omega,_,J4 W,rfl,?_⟩;(try simp -implicitDefEqProofs only[EV,Nat.reduceAdd,Nat.reduceEqDiff,Nat.reduceBEq,reduceCtorEq,H3]);refine cc L ?_;apply z;clear z K)
   refine Ai ax Ch λK4 u4=>?_;refine A0.tt rfl (A0.xx ?_);simp only[A4,Ac,Af];exact a' sS (by simp[ble,A7,Aj]) (skip hG)
  |some g =>
   rw[ho]at hG;simp only at hG;clear skip a' L;obtain⟨bf,sg,aq,ar,ap,b1,rfl⟩:=H0s ho;have hA:=G1g p E.sm a5 hr c a6 sg bf aq b1;obtain⟨ay,bc,_,_⟩:=A2n h2;obtain⟨d',_,_,_,_,he,am⟩:=A5p a1 (Nt.1 (by rw[<-af];exact ar));rw[ap,h2]at am;cases am;have a7:=E.sm.decls.2 d ay;have bi:(E1 c sg).params.length=d.sig.params.length:=by show(H9 _).length=_;rw[A7u,Bc,he];simp only[A3.subst,Bc,A3.canon,Vy]
   have bl:(E1 c sg).result=.mk (E1 c sg).result.name [] 0:=rfl;have bn:(E1 c sg).params.length<=sm:=by rw[bi];exact a7.sig.params.1
   obtain⟨hq,av,b0⟩:=C0i hp E.sm hr ay bc a6;rw[af]at hq av b0;have ak:=E5m (My d x c) (E3z (B:=720000000) (by decide) av hq b0);have b3:=E5r (Mr d) (Jt x c) (λu hu=>(Bz.1 hu).elim (a0.arg u) (a6.sm.targs.2 u)) d.body a7.body;have bg:=R3 d.sig.A1 a7.sig.A1.1;have b4:Bq (Mr d)=Bq d.vars++Bq (d.sig.A1.map (·.name)):=by simp[Mr,Bq,Ad]
   have b9:Ax (Jt x c)=Ax x.args++Ax c.targs:=by simp[Jt,Dj]
   have bp:=a7.vars.1;have bj:=a7.sig.A1.1;have bk:=a6.sm.targs.1;have b':Ir D6 p c=some ⟨3,nm,[],[],[],d.recv,[],⟨(E1 c sg).name,[],Gm (E1 c sg).params d.sig.params,.mk (E1 c sg).result.name [] 0,0⟩,D6 (d.body.subst (Mr d) (Jt x c)),0⟩:=hG;clear hG;unfold My at ak;generalize(E1 c sg).name=gn at*;generalize(E1 c sg).result.name=rn at*;generalize(E1 c sg).params=ps at*;generalize bq:Mr d=NN at*;generalize br:Jt x c=AA at*
   (refine sG Ch [] 7 [] λK z=>?_;refine ev ?_;refine⟨by omega,_,J4 W,rfl,?_⟩;(try simp -implicitDefEqProofs only[EV,Nat.reduceAdd,Nat.reduceEqDiff,reduceCtorEq,H3]);refine cc a4 ?_;apply z;clear z K)
   (refine sG Ch [800137] 11 [⟨[],[],[21],[21]⟩,⟨[],[],[21],[21]⟩,⟨[],[],[21],[21]⟩,⟨[],[],[21],[21]⟩,⟨[],[],[21],[21]⟩,⟨[25],[25],[21],[21]⟩,⟨[],[],[21],[21]⟩,⟨[],[],[21],[21]⟩,⟨[],[],[21],[21]⟩,⟨[21],[21],[25],[25]⟩,⟨[21],[],[],[]⟩] λK z=>?_;refine ev ?_;refine⟨by omega,_,J4 W,rfl,?_⟩;(try simp -implicitDefEqProofs only[EV,Nat.reduceAdd,Nat.reduceBEq,H3,]);refine⟨_,_,_,B7n 25 rfl rfl rfl hA rfl (by decide) rfl,?_⟩;(try simp -implicitDefEqProofs only[EV,Nat.reduceAdd,Nat.reduceEqDiff,Nat.reduceBEq,Nat.reduceLeDiff,reduceCtorEq,Qb,SV.Ek,SV.Nv,A8c]);apply z;clear z K)
   refine Ai ax Ch λK4 u4=>?_;refine kI u4 ?_;clear u4 K4
   (refine sV Ch λK z=>?_;refine ci (Dx b8) ?_;apply z;clear z K)
   refine kR Ch λK4 u4=>?_;refine A0.bb (A0.ii ps (X:=Unit) (λi _=>[(3,.box 3 0),(5,.box 5 0),(7,Bm nm),(8,.d (.slice (Mn C))),(9,.d (.slice (B0 ss))),(18,.acc 116),(19,A5 j),(21,.box 21 0),(23,.box 23 0),(24,A5 i)])
    (λi _=>[(3,.cells ((Aj p).map .d)),(5,.cells (Pa x)),(116,.rows 23 PR),(21,.cells (agS gn rn (.acc 25))),(23,.cells (deS d)),(25,.rows 5 (Av (Gm (ps.take i) d.sig.params++ps.drop i)))])
    (λ_ _=>True) () trivial sS (by simp[ble,A7,Gm,Aj]) ?_ ?_)
   rotate_left
   .intro i _ q hq ba Z aa ao _;obtain⟨e,he⟩:∃e,d.sig.params[i]?=some e:=⟨_,Bi (by have:=(Az.1 hq).1;omega)⟩;have ah:(Gm (ps.take i) d.sig.params).length=i:=by
     have:=(Az.1 hq).1;simp only[Gm,Aq9,D4];omega
    have ab:(Av (Gm (ps.take i) d.sig.params++ps.drop i))[i]?=some (G9 q):=Du (by rw[Kd (by omega),ah,Au7,Z];rfl)
    have ac:Av (Gm (ps.take (i+1)) d.sig.params++ps.drop (i+1))=(Av (Gm (ps.take i) d.sig.params++ps.drop i)).set i (Gy (G9 q) 0 [.str e.name]):=H3j hq he Z aa ah;have b2:(Av (Gm (ps.take i) d.sig.params++ps.drop i)).length=ps.length:=by rw[A7g,B6,ah,Ap1];have:=(Az.1 hq).1;omega
    have aj:i<=sm:=by have:=(Az.1 hq).1;omega
    unfold sm at aj;have b7:i<(Av (Gm (ps.take i) d.sig.params++ps.drop i)).length:=(Az.1 ab).1;generalize Av (Gm (ps.take i) d.sig.params++ps.drop i)=QR at*;refine Ng ao b2 Ch λK5 u5=>?_;refine gI u5 ?_;clear u5 K5;refine sK λK5 u5=>A0.bb ?_
    (refine lG Ch [] 10 [] λK z=>?_;refine ev ?_;refine ci (Du he) ?_;refine⟨by omega,b7,G9 q,[.str e.name],ab,rfl,by simp[G9],?_⟩;(try refine ev ?_);apply z;clear z K;try simp only[A4,Ac])
    refine u5 _ _ ?_;clear u5 K5
    (refine lV Ch λK z=>?_;refine cl ?_;apply z;clear z K;try simp only[A4,])
    exact⟨(),trivial,sS,by simp[ble,A7,Aj];exact ac.symm⟩
   intro _ _;have a2:(Av (Gm (ps.take ps.length) d.sig.params++ps.drop ps.length)).length=ps.length:=by rw[Ci,Db,Fj,A7g];simp only[Gm,Aq9];omega
   rw[Ci,Db,Fj]at a2 |-;refine Ng B3 a2 Ch λK5 u5=>?_;refine A0.ss rfl ?_;simp only[A4,Ac,Af];refine u4 _ _ ?_;clear u5 K5 u4 K4
   (refine sG Ch [170] 7 [⟨[170],[170],[],[]⟩,⟨[],[],[170],[170]⟩,⟨[],[],[170],[170]⟩,⟨[170],[170],[],[]⟩,⟨[],[],[170],[170]⟩,⟨[],[],[170],[170]⟩,⟨[],[],[170],[170]⟩] λK z=>?_;refine ev ?_;refine⟨A2e _,by(try simp only[Bq,Bc,Ca]);unfold lim sm at*;omega,?_⟩;(try refine ev ?_);refine cc bg ?_;refine⟨A2e _,by(try simp only[Bc]);unfold lim sm at*;omega,?_⟩;(try refine ev ?_);apply z;clear z K)
   (refine sG Ch [179] 9 [⟨[179],[179],[],[]⟩,⟨[],[],[179],[179]⟩,⟨[],[],[179],[179]⟩,⟨[179],[179],[],[]⟩,⟨[],[],[179],[179]⟩,⟨[],[],[179],[179]⟩,⟨[],[],[179],[179]⟩,⟨[],[],[179],[179]⟩,⟨[],[],[179],[179]⟩] λK z=>?_;refine ev ?_;refine⟨Wj _,by(try simp only[Dj,Bc,Ca]);unfold lim sm at*;omega,?_⟩;refine⟨by omega,_,J4 W,rfl,?_⟩;(try simp -implicitDefEqProofs only[EV,Nat.reduceAdd,Nat.reduceEqDiff,Nat.reduceBEq,Nat.reduceLeDiff,reduceCtorEq,M1,Iw,H3]);refine⟨Wj _,by(try simp only[Dj,B6,Bc,Ca]);unfold lim sm at*;omega,?_⟩;apply z;clear z K)
   rw[<-b4,<-b9]
   (refine A0.Lw 170 rfl ?_;refine A0.Lw 179 rfl ?_;refine A0.Lw 25 rfl (wk [(3,.box 3 0),(5,.box 5 0),(7,Bm nm),(8,.d (.slice (Mn C))),(9,.d (.slice (B0 ss))),(18,.acc 116),(19,A5 j),(21,.box 21 0),(23,.box 23 0),(25,Cc NN),(26,Cm AA)] [(3,.cells ((Aj p).map .d)),(5,.cells (Pa x)),(116,.rows 23 PR),(21,.cells (agS gn rn (.d (.slice (Av (Gm ps d.sig.params)))))),(23,.cells (deS d))] ?_))
   (refine sV Ch λK z=>?_;refine cc b3 ?_;refine cc ak ?_;apply z;clear z K)
   generalize D6 (d.body.subst NN AA)=bm at*;generalize Gm ps d.sig.params=pr at*
   (refine lV Ch λK z=>?_;refine⟨by simp,by unfold lim sm at*;omega,?_⟩;(try refine ev ?_);apply z;clear z K;try simp only[A4,Ac])
   refine u3 _ _ ?_;clear u3 K3;refine lT Ch ?_;exact⟨(),trivial,sS,by simp[ble,A7,C1,Ar,Aj,b'];repeat' first|rfl|constructor⟩
 intro _ _;rw[Ci];have au:=Ai3 (Ir D6 p) C;refine sK λJ u2=>?_
 (refine sQ Ch λK z=>?_;simp -implicitDefEqProofs only[EV,Nat.reduceEqDiff,reduceCtorEq,Jd,B3,L9];apply z;clear z K)
 refine A0.ss rfl ?_;simp only[A4,Ac,Af];refine u1 _ _ ?_;clear u2 J u1 U;refine kR Ch λU u1=>?_;refine A0.bb (A0.ii ss (X:=Unit) (λj _=>[(7,Bm nm),(9,.d (.slice (B0 ss))),(18,.acc 116),(28,A5 j)])
  (λj _=>[(116,.rows 23 (C1 (headD 1 nm (J9 fs) []::(C.filterMap (Ir D6 p)++(ss.take j).map (Jy nm)))))])
  (λ_ _=>True) () trivial sS (by simp[ble,A7,C1]) ?_ ?_)
 rotate_left
 .intro j _ s hs I dp tk O _;have hj:=(Az.1 hs).1;have ag:=ai s I;have ad:=E1r s (A3.Ni.dum (ag.mono (by decide)));have e2:C1 (headD 1 nm (J9 fs) []::(C.filterMap (Ir D6 p)++(ss.take (j+1)).map (Jy nm)))=C1 (headD 1 nm (J9 fs) []::(C.filterMap (Ir D6 p)++(ss.take j).map (Jy nm)))++[Ar (Jy nm s)]:=by
   rw[J0 hj,(Az.1 hs).2];simp[C1]
  have e3:(C1 (headD 1 nm (J9 fs) []::(C.filterMap (Ir D6 p)++(ss.take j).map (Jy nm)))).length<=2*sm+1:=by simp only[C1,Bc,Bg,B6,D4];omega
  rw[e2];generalize C1 (headD 1 nm (J9 fs) []::(C.filterMap (Ir D6 p)++(ss.take j).map (Jy nm)))=PR at*;unfold Jy;generalize Hd s=g at*;refine Ai O Ch λJ u2=>?_;refine gI u2 ?_;clear u2 J;refine sK λJ u2=>A0.bb ?_
  (refine lV Ch λK z=>?_;refine ci (D1 hs) ?_;refine cc ad ?_;refine⟨by simp,by unfold lim sm at*;omega,?_⟩;(try refine ev ?_);apply z;clear z K;try simp only[A4,Ac])
  refine u2 _ _ ?_;clear u2 J;refine lT Ch ?_;exact⟨(),trivial,sS,⟨rfl,trivial⟩⟩
 intro _ _;rw[Ci];refine Ai B3 Ch λJ u2=>?_;refine A0.ss rfl ?_;simp only[A4,Ac,Af];refine u1 _ _ ?_;clear u2 J u1 U;refine sR Ch ?_;exact aR
end Go.Abs
/- the set that castingsref21.Find returns is closed: all that its types and calls need is in it -/
namespace Go.Abs
open Go
def Kj(t:Ty)(l:List Ty):Prop:=∃u,u∈l/\t.er=u.er
def Yk(c:B9)(l:List B9):Prop:=∃d,d∈l/\Dn c d=0
section
variable {α:Type} {cmp:α->α->Int} {x:α}
theorem B0i:∀{l:List α} {done:Bool} {out R:List α},Fu cmp x l done out=some R->(∀t,t∈out\/t∈l->t∈R)/\(done=false->x∈R)/\R.length=out.length+l.length+(if done=true then 0 else 1)
 |[],done,out,R,h=>by grind[Fu]
 |t::l,done,out,R,h=>by
  rw[Fu]at h;split at h
  .cases h
  split at h
  .rename_i E I;obtain⟨k1,_,k3⟩:=B0i h
   grind
  .obtain⟨k1,k2,k3⟩:=B0i h
   grind
theorem C3r:∀{l:List α} {done:Bool} {out:List α},Fu cmp x l done out=none->∃t,t∈l/\cmp x t=0
 |[],done,out,h=>by rw[Fu]at h;cases h
 |t::l,done,out,h=>by
  rw[Fu]at h;split at h
  .grind
  split at h
  .obtain⟨u,E,h⟩:=C3r h;grind
  .obtain⟨u,E,h⟩:=C3r h;grind
theorem D0i(l:List α):∀t,t∈l->t∈I6 cmp l x:=λt ht=>by
 unfold I6;cases h:Fu cmp x l false []with
 |none=>exact ht
 |some R=>exact(B0i h).1 t (.inr ht)
theorem D9t(hr:cmp x x=0)(l:List α):∃t,t∈I6 cmp l x/\cmp x t=0:=by
 unfold I6;cases h:Fu cmp x l false []with
 |none=>exact C3r h
 |some R=>exact⟨x,(B0i h).2.1 rfl,hr⟩
theorem D1a(l:List α)(h:(I6 cmp l x).length=l.length):I6 cmp l x=l:=by
 unfold I6 at h |-;cases E:Fu cmp x l false []with
 |none=>rfl
 |some R =>
  have:=(B0i E).2.2
  grind
theorem C6e(E:∀a b c,T3 (cmp a b) (cmp b c) (cmp a c))(L:∀a b,cmp b a = - cmp a b):∀{l:List α} {done:Bool} {out R:List α},Fu cmp x l done out=some R->(out++l).Pairwise (λa b=>cmp a b<0) ->
  (done=false->∀t,t∈out->cmp t x<0)->(done=true->True)->R.Pairwise λa b=>cmp a b<0
 |[],done,out,R,h,hp,ho,_=>by
  rw[Fu]at h
  grind
 |t::l,done,out,R,h,hp,ho,hd=>by
  rw[Fu]at h;split at h
  .cases h
  rename_i h0;split at h
  .rename_i I;refine C6e E L h ?_ (λh=>by cases h) λ_=>trivial;rw[Ga];obtain⟨O,J,p3⟩:=Ao2.1 hp;rw[Ao2];obtain⟨V,Z⟩:=Zo.1 J;refine⟨O,Zo.2 ⟨λu hu=>?_,J⟩,λa W b hb=>?_⟩
   .rcases B1.1 hu with rfl|hu
    .omega
    .exact(E x t u).1 I.1 (by have:=V u hu;omega)
   grind
  .rename_i I;refine C6e E L h (by grind) (λU u hu=>?_) hd
   grind
theorem D4q(I:∀a b c,T3 (cmp a b) (cmp b c) (cmp a c))(J:∀a b,cmp b a = - cmp a b){l:List α}(E:l.Pairwise λa b=>cmp a b<0):(I6 cmp l x).Pairwise λa b=>cmp a b<0:=by
 unfold I6;cases h:Fu cmp x l false []with
 |none=>exact E
 |some R=>grind[C6e]
end
structure An.Ext(s r:An):Prop where
 types:∀t,t∈s.types->t∈r.types
 calls:∀c,c∈s.calls->c∈r.calls
 D9:r.D9=false->s.D9=false
theorem An.Ext.refl(s:An):s.Ext s:=⟨λ_ h=>h,λ_ h=>h,λh=>h⟩
theorem An.Ext.trans{a b c:An}(h:a.Ext b)(k:b.Ext c):a.Ext c:=⟨λt ht=>k.types t (h.types t ht),λt ht=>k.calls t (h.calls t ht),λE=>h.D9 (k.D9 E)⟩
theorem Kj.ext{s r:An}(h:s.Ext r){t:Ty}(k:Kj t s.types):Kj t r.types:=by obtain⟨u,E,e⟩:=k;exact⟨u,h.types u E,e⟩
theorem Yk.ext{s r:An}(h:s.Ext r){t:B9}(k:Yk t s.calls):Yk t r.calls:=by obtain⟨u,E,e⟩:=k;exact⟨u,h.calls u E,e⟩
structure Fg(f:An->An):Prop where
 ext:∀s:An,s.Ext (f s)
 ge:∀s,Ey s<=Ey (f s)
 id:∀s,(f s).D9=false->Ey (f s)=Ey s->f s=s
theorem Fg.one:Fg λs=>s:=⟨An.Ext.refl,λ_=>Bs _,λ_ _ _=>rfl⟩
theorem Fg.comp{f g:An->An}(I:Fg f)(E:Fg g):Fg λs=>g (f s) :=
 ⟨λs=>(I.ext s).trans (E.ext _),λs=>Cp (I.ge s) (E.ge _),λs J hs=>by have O:=I.ge s;have U:=E.ge (f s);have L:=E.id (f s) J (by omega);rw[L]at J hs |-;exact I.id s J hs⟩
theorem Fg.fold{α:Type}{f:An->α->An}:∀l:List α,(∀a,a∈l->Fg λs=>f s a)->Fg λs=>l.foldl f s
 |[],_=>Fg.one
 |a::l,h=>Fg.comp (h a (by simp)) (Fg.fold l λb E=>h b (by grind))
theorem B4s{α:Type}{f:An->α->An}:∀(l:List α)(s:An),(∀a,a∈l->Fg λs=>f s a)->∀a,a∈l->∃E,(f E a).Ext (l.foldl f s)
 |[],_,_,_,h=>by grind
 |b::l,s,hs,a,h=>by
  rcases B1.1 h with rfl|h
  .exact⟨s,(Fg.fold l λb J=>hs b (by grind)).ext _⟩
  .exact B4s l (f s b) (λc I=>hs c (by grind)) a h
theorem A6e(x:Ty):Fg λs=>Gp s x:=by
 refine⟨λs=>?_,λs=>B1k s x,λs E hs=>?_⟩
 .unfold Gp;split
  .exact⟨λ_ h=>h,λ_ h=>h,λh=>by cases h⟩
  .exact⟨λt ht=>D0i _ t ht,λ_ h=>h,λh=>h⟩
 .unfold Gp at E hs |-;split at E
  .cases E
  .rename_i I;rw[A6 I]at hs |-;simp only[Ey]at hs;rw[D1a _ (by omega)]
theorem C7j(x:B9):Fg λs=>Gj s x:=by
 refine⟨λs=>?_,λs=>D7s s x,λs E hs=>?_⟩
 .unfold Gj;split
  .exact⟨λ_ h=>h,λ_ h=>h,λh=>by cases h⟩
  .exact⟨λ_ h=>h,λt ht=>D0i _ t ht,λh=>h⟩
 .unfold Gj at E hs |-;split at E
  .cases E
  .rename_i I;rw[A6 I]at hs |-;simp only[Ey]at hs;rw[D1a _ (by omega)]
theorem B5y{s:An}{x:Ty}(h:(Gp s x).D9=false):Kj x (Gp s x).types:=by
 unfold Gp at h |-;split at h
 .cases h
 .rename_i E;rw[A6 E];obtain⟨t,ht,e⟩:=D9t (cmp:=E6) (x:=x) ((Tn x x).2 rfl) s.types;exact⟨t,ht,(Tn x t).1 e⟩
theorem F5i{s:An}{x:B9}(h:(Gj s x).D9=false):Yk x (Gj s x).calls:=by
 unfold Gj at h |-;split at h
 .cases h
 .rename_i E;rw[A6 E];exact D9t (D9b x) s.calls
theorem H3z(e:Ex)(z:Ty × F8):Fg λs=>T0 s e z:=by
 have I:Fg λs=>({ s with D9:=s.D9 ||z.2.D9 }:An):=by
  refine⟨λs=>⟨λ_ h=>h,λ_ h=>h,λh=>?_⟩,λs=>Bs _,λs E _=>?_⟩
  .grind
  .simp at E;obtain⟨a,b,c⟩:=s
   grind
 unfold T0;by_cases h:z.2.bad=true
 .grind
 .simp only[h,Fx];exact Fg.comp I (Fg.comp (A6e z.1) (C7j _))
theorem D5m(p:Prog)(vars:List Param)(e:Ex):Fg λs=>Kv p vars s e:=by
 unfold Kv;by_cases I:e.kind=3\/e.kind=5
 .simp only[I,Af];exact A6e e.type
 simp only[I,Fx];by_cases E:e.kind=2
 .simp only[E,Af];cases e.kids with
  |nil=>exact Fg.one
  |cons v vs=>exact H3z e _
 .simp only[E,Fx];exact Fg.one
theorem G1e(p:Prog)(e:Ex)(vars:List Param):Fg λs=>Nc p s e vars:=Fg.fold _ λa _=>D5m p vars a
theorem D9x(p:Prog)(x:Ty)(c:B9):Fg λs=>Qs p s x c:=by
 unfold Qs;split
 .exact Fg.one
 .split
  .exact Fg.one
  .exact G1e p _ _
theorem E6z(l:List Ty):Fg λs=>Jx s l:=Fg.fold _ λa _=>A6e a
theorem B9k(p:Prog)(x:Ty)(c:B9):Fg λs=>Kg p x s c:=by
 unfold Kg;cases Mu p x c with
 |none=>exact Fg.one
 |some g=>exact Fg.comp (E6z _) (Fg.comp (A6e _) (D9x p x c))
theorem D0f(p:Prog)(s:An)(x:Ty):Fg λout=>Qe p s out x:=by
 unfold Qe;by_cases h:Bh p x 1=true
 .simp only[h,Af];exact Fg.comp (E6z _) (Fg.fold _ λa _=>B9k p x a)
 .simp only[h];exact Fg.fold _ λa _=>B9k p x a
theorem E7c(p:Prog)(s:An):Fg λout=>s.types.foldl (Qe p s) out:=Fg.fold _ λa _=>D0f p s a
def A4x(p:Prog)(vars:List Param)(y:Ex)(r:An):Prop :=
 (y.kind=3\/y.kind=5->Kj y.type r.types)/\∀v vs,y.kind=2->y.kids=v::vs->(Dk ⟨p,false,[],vars⟩ v).2.D9=false /\
  ((Dk ⟨p,false,[],vars⟩ v).2.bad=false->Kj (Dk ⟨p,false,[],vars⟩ v).1 r.types/\Yk ⟨(Dk ⟨p,false,[],vars⟩ v).1,y.name,y.targs⟩ r.calls)
theorem A4x.ext{p:Prog}{vars:List Param}{y:Ex}{s r:An}(h:s.Ext r)(k:A4x p vars y s):A4x p vars y r :=
 ⟨λL=>(k.1 L).ext h,λv vs E I=>⟨(k.2 v vs E I).1,λJ=>⟨((k.2 v vs E I).2 J).1.ext h,((k.2 v vs E I).2 J).2.ext h⟩⟩⟩
theorem G4p{p:Prog}{vars:List Param}{s:An}{y:Ex}(h:(Kv p vars s y).D9=false):A4x p vars y (Kv p vars s y):=by
 unfold Kv at h |-;by_cases E:y.kind=3\/y.kind=5
 .simp only[E,Af]at h |-;exact⟨λ_=>B5y h,λv vs I=>by omega⟩
 simp only[E,Fx]at h |-;refine⟨λL=>absurd L E,λv vs I U=>?_⟩;simp only[I,Af,U]at h |-;unfold T0 at h |-;by_cases O:(Dk ⟨p,false,[],vars⟩ v).2.bad=true
 .grind
 .rw[A6 O]at h |-;have E:=(C7j _).ext _ |>.D9 h
  have J:=(A6e _).ext _ |>.D9 E
  simp at J;exact⟨J.2,λ_=>⟨(B5y E).ext ((C7j _).ext _),F5i h⟩⟩
theorem E7i{p:Prog}{vars:List Param}{s:An}{e:Ex}(h:(Nc p s e vars).D9=false):∀y,y∈B8 e->A4x p vars y (Nc p s e vars):=λy E=>by obtain⟨I,hs⟩:=B4s (B8 e) s (λa _=>D5m p vars a) y E;exact(G4p (hs.D9 h)).ext hs
theorem D8r{s:An}{l:List Ty}(h:(Jx s l).D9=false):∀t,t∈l->Kj t (Jx s l).types:=λt ht=>by obtain⟨E,hs⟩:=B4s l s (λa _=>A6e a) t ht;exact(B5y (hs.D9 h)).ext hs
def C8x(p:Prog)(x:Ty)(c:B9)(r:An):Prop:=∀g,Mu p x c=some g->(∀t,t∈Wr g c->Kj t r.types)/\Kj (Wg g c) r.types/\∀d,Jr p x c.name=some d->∀y,y∈B8 (My d x c)->A4x p (Ws p d x c) y r
theorem F0d{p:Prog}{x:Ty}{s:An}{c:B9}(h:(Kg p x s c).D9=false):C8x p x c (Kg p x s c):=by
 intro g U;unfold Kg at h |-;rw[U]at h |-;simp only at h |-;have I:=(D9x p x c).ext (Gp (Jx s (Wr g c)) (Wg g c));have L:=I.D9 h;have J:=(A6e (Wg g c)).ext (Jx s (Wr g c));have V:=J.D9 L;refine⟨λt ht=>((D8r V t ht).ext J).ext I,(B5y L).ext I,λd hd y Z=>?_⟩;unfold Qs at h |-;rcases C0w p x c.name with⟨_,O⟩|⟨j,d',W,E,O⟩
 .grind
 .rw[O]at hd;cases hd;rw[W,A6 (by omega),Je,E]at h |-;exact E7i h y Z
structure Clo(p:Prog)(s:An):Prop where
 main:∀y,y∈B8 p.main->A4x p [] y s
 fields:∀x,x∈s.types->Bh p x 1=true->∀f,f∈Bx p x->Kj f.type s.types
 call:∀x,x∈s.types->∀c,c∈s.calls->C8x p x c s
 types:s.types.Pairwise λa b=>E6 a b<0
 calls:s.calls.Pairwise λa b=>Dn a b<0
theorem G3x{p:Prog}{s:An}(h:(Kz p s).D9=false):(∀x,x∈s.types->Bh p x 1=true->∀f,f∈Bx p x->Kj f.type (Kz p s).types)/\∀x,x∈s.types->∀c,c∈s.calls->C8x p x c (Kz p s):=by
 have key:∀x,x∈s.types->∃o,(Qe p s o x).Ext (Kz p s):=λx I=>B4s s.types s (λa _=>D0f p s a) x I;refine⟨λx I W f V=>?_,λx I c Z=>?_⟩
 .obtain⟨o,E⟩:=key x I;have J:=E.D9 h;unfold Qe at E J;rw[A8 W]at E J;have O:=(Fg.fold s.calls λa _=>B9k p x a).ext (Jx o ((Bx p x).map (·.type)));exact((D8r (O.D9 J) f.type (Au.2 ⟨f,V,rfl⟩)).ext O).ext E
 .obtain⟨o,E⟩:=key x I;have J:=E.D9 h;unfold Qe at E J;obtain⟨o',L⟩:=B4s s.calls (if Bh p x 1=true then Jx o ((Bx p x).map (·.type))else o) (λa _=>B9k p x a) c Z;have e:=L.trans E;intro g U;obtain⟨k1,k2,k3⟩:=F0d (e.D9 h) g U;exact⟨λt ht=>(k1 t ht).ext e,k2.ext e,λd hd y hy=>(k3 d hd y hy).ext e⟩
structure An.Qf(s:An):Prop where
 types:s.types.Pairwise λa b=>E6 a b<0
 calls:s.calls.Pairwise λa b=>Dn a b<0
theorem An.Qf.lg{s:An}(h:s.Qf)(b:Bool):An.Qf { s with D9:=b }:=⟨h.types,h.calls⟩
theorem B2a{s:An}(h:s.Qf)(x:Ty):(Gp s x).Qf:=by
 unfold Gp;split
 .exact⟨h.types,h.calls⟩
 .exact⟨D4q C5t C8k h.types,h.calls⟩
theorem F0r{s:An}(h:s.Qf)(x:B9):(Gj s x).Qf:=by
 unfold Gj;split
 .exact⟨h.types,h.calls⟩
 .exact⟨h.types,D4q C3d C0b h.calls⟩
theorem D3d{p:Prog}{vars:List Param}{s:An}(h:s.Qf)(e:Ex):(Nc p s e vars).Qf:=by
 refine foldI _ (λs y _ h=>?_) h;unfold Kv;split
 .exact B2a h _
 split
 .split
  .exact h
  .unfold T0;split
   .exact⟨h.types,h.calls⟩
   .exact F0r (B2a (h.lg _) _) _
 omega
theorem G8t{p:Prog}{s:An}(h:s.Qf):(Kz p s).Qf:=by
 refine foldI _ (λo x _ E=>foldI _ (λo c _ E=>?_) ?_) h
 .unfold Kg;split
  .exact E
  .refine(?_:An.Qf _);unfold Qs;have I:(Gp (Jx o (Wr ‹A3› c)) (Wg ‹A3› c)).Qf:=B2a (foldI _ (λs t _ h=>B2a h t) E) _
   grind[D3d]
 .split
  .exact foldI _ (λs t _ h=>B2a h t) E
  omega
theorem E5b{p:Prog}:∀(k:Nat)(s:An)(n:Int),s.Qf->(Hx p k s n).2=true->(n = -1\/∃E:An,s=Kz p E/\n=Ey E) ->
  s.Ext (Hx p k s n).1/\(Hx p k s n).1.Qf/\∃E:An,(Hx p k s n).1=Kz p E/\Ey E=Ey (Hx p k s n).1
 |0,s,n,_,h,_=>by simp[Hx]at h
 |k+1,s,n,hs,h,V=>by
  rw[Hx]at h |-;by_cases J:n=(Ey s:Int)
  .rw[A8 J]at h |-;split at h
   .cases h
   .rename_i I;rw[A6 I]
    grind[An.Ext.refl]
  .rw[A6 J]at h |-;split at h
   .cases h
   .rename_i I;rw[A6 I];obtain⟨O,L,U⟩:=E5b k (Kz p s) (Ey s) (G8t hs) h (.inr ⟨s,rfl,rfl⟩);exact⟨((E7c p s).ext s).trans O,L,U⟩
theorem G1x{p:Prog}(h:(Km p).2=true):Clo p (Km p).1:=by
 have I:=C8d _ _ _ h;rw[show(Hx p 64 (Nc p Sz p.main []) (-1)).1=(Km p).1 from rfl]at I;have J:(Km p).1.D9=false:=by unfold Uj at I;simp only[An6]at I;exact I.2.2.1
 obtain⟨O,L,E,U,g4⟩:=E5b 64 (Nc p Sz p.main []) (-1) (D3d ⟨by simp,by simp⟩ _) h (.inl rfl);rw[show(Hx p 64 (Nc p Sz p.main []) (-1)).1=(Km p).1 from rfl]at O L U g4;have e:Kz p E=E:=(E7c p E).id E (by grind[Kz]) (by grind[Kz]);have Z:(Km p).1=E:=U.trans e;have V:Kz p (Km p).1=(Km p).1:=by rw[Z];exact e
 obtain⟨k1,k2⟩:=G3x (p:=p) (s:=(Km p).1) (by grind);rw[V]at k1 k2;exact⟨λy W=>(E7i (O.D9 J) y W).ext O,k1,k2,L.types,L.calls⟩
end Go.Abs
