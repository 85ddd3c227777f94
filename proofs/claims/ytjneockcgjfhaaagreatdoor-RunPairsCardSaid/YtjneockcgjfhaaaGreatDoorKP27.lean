/- castingsref20.Expr -/
import Derived.Test.YtjneockcgjfhaaaGreatDoorKP25
import Derived.Test.YtjneockcgjfhaaaGreatDoorKS61
set_option linter.all false
set_option maxHeartbeats 4000000
set_option maxRecDepth 100000
namespace Go.Abs
open Go Go.Proofs
mutual
def Bf:Ex->Ex
 |.mk k n t a ks q=>.mk k (if k=2 then Dg n a else n) (.mk t.mg [] t.pos) [] (B7d ks) q
def B7d:List Ex->List Ex
 |[]=>[]
 |e::es=>Bf e::B7d es
end
theorem E3n:∀l:List Ex,B7d l=l.map Bf
 |[]=>rfl
 |t::E=>by rw[B7d,E3n E,Cp]
theorem J5(e:Ex):Bf e=.mk e.kind (if e.kind=2 then Dg e.name e.targs else e.name) (.mk e.type.mg [] e.type.pos) [] (e.kids.map Bf) e.pos:=by cases e with|mk k n t a ks q=>rw[Bf,E3n];rfl
inductive Ex.Mx:Ex->Prop where
 |mk (k:Int) (n:A2) (t:Ty) (a:List Ty) (ks:List Ex) (q:Int):Ab Tryz.prog 53 [Be t] (Be (.mk t.mg [] t.pos))->(k=2->n.length<=60000000*sm/\a.length<=sm/\(∀t,t∈a->t.Mg)/\Ty.Bu a<=10000000000000) ->ks.length<=sm->(∀e,e∈ks->Ex.Mx e)->Ex.Mx (.mk k n t a ks q)
theorem Ex.Mx.kids  {e:Ex}(h:e.Mx):e.kids.length<=sm/\∀x,x∈e.kids->x.Mx:=by cases h;exact⟨by assumption,by assumption⟩
theorem Ex.Mx.type{e:Ex}(h:e.Mx):Ab Tryz.prog 53 [Be e.type] (Be (.mk e.type.mg [] e.type.pos)):=by cases h;assumption
theorem Ex.Mx.Iw  {e:Ex}(h:e.Mx):e.kind=2->e.name.length<=60000000*sm/\e.targs.length<=sm/\(∀t,t∈e.targs->t.Mg)/\Ty.Bu e.targs<=10000000000000:=by cases h;assumption
abbrev Mz:List Nat:=[0,1,2,3,4,17,28,67]
theorem E0w:∀e:Ex,e.Mx->Ab Tryz.prog 22 [Bg e] (Bg (Bf e)):=by
 intro e
 induction e using Ex.induct with
 |h e Z =>
 intro L;have a0:=L.kids.1;have O:=L.type;rw[J5];by_cases k2:e.kind=2
 .have hx:Bg e=.agg [.d (.int .i64 2),.d (.str e.name),.d (.str e.type.name),.d (.slice (Ag e.type.args)),.d (.int .i64 e.type.pos),.d (.slice (Ag e.targs)),.d (.slice (Bj e.kids)),.d (.int .i64 e.pos)]:=by rw[<-k2]
  obtain⟨a1,a2,a3,a4⟩:=L.Iw k2;have V:=C4m e.name a1 e.targs a2 a3 a4;rw[A6 k2,k2,hx];refine cB Tryz.func22 ?_;refine sR Mz ?_
  (refine sG Mz [] 11 gl λK z=>?_;refine ev ?_;refine cc O ?_;apply z;clear z K)
  refine kR Mz λU u1=>?_;refine A0.tt rfl ?_
  (refine lV Mz λK z=>?_;refine cc V ?_;apply z;clear z K;try simp only[A5,])
  refine u1 _ _ ?_;clear u1 U;refine A0.Nz 67 8 3 6 rfl rfl (by decide)<|kR Mz λU u1=>?_;refine A0.bb (A0.ii e.kids (X:=Unit) (λj _=>[(1,.box 1 0),(2,.box 2 0),(3,.box 3 0),(4,A7 j)]) (λj _=>[(1,.cells [.d (.int .i64 2),.d (.str e.name),.d (.str e.type.name),.d (.slice (Ag e.type.args)),.d (.int .i64 e.type.pos),.d (.slice (Ag e.targs)),.d (.slice (Bj e.kids)),.d (.int .i64 e.pos)]),(2,.cells [.d (.int .i64 0),.d (.str []),.d (.str []),.d .nil,.d (.int .i64 0),.d .nil,.d .nil,.d (.int .i64 0)]),(3,.cells [.d (.int .i64 2),.d (.str (Dg e.name e.targs)),.d (.str e.type.mg),.d (.slice []),.d (.int .i64 e.type.pos),.d .nil,.acc 67,.d (.int .i64 e.pos)]),(67,.rows 8 (Bj ((e.kids.take j).map Bf)))]) (λj _=>True) () trivial sS (by simp[ble,A8,I0];exact⟨rfl,rfl,rfl⟩) ?_ ?_)
  rotate_left
  .intro j _ d hd E dp tk J _;have W:=Z d E (L.kids.2 d E);rw[tk];refine Ae J Mz λI u2=>?_;refine gI u2 ?_;clear u2 I;refine sK λI u2=>A0.bb ?_
   (refine lG Mz [] 9 [] λK z=>?_;refine ev ?_;refine ci (Ck hd) ?_;refine cc W ?_;refine⟨by simp,by simp only[Bc,D0];unfold lim sm at*;omega,?_⟩;(try refine ev ?_);apply z;clear z K;try simp only[A5,A9])
   refine u2 _ _ ?_;clear u2 I;refine lT Mz ?_;exact⟨(),trivial,sS,by simp[ble,A8,I0,Bp]⟩
  intro _ _;rw[Cx];refine Ae B6 Mz λI u2=>?_;refine A0.ss rfl ?_;simp only[A5,A9,Ac];refine u1 _ _<|sR Mz ?_;exact aR
 .rw[A3 k2];refine cB Tryz.func22 ?_;refine sR Mz ?_
  (refine sG Mz [] 11 gl λK z=>?_;refine ev ?_;refine cc O ?_;apply z;clear z K)
  refine Ae k2 Mz λU u1=>?_;refine A0.ff rfl (A0.kk (u1 _ _ ?_));clear u1 U;refine A0.Nz 67 8 3 6 rfl rfl (by decide)<|kR Mz λU u1=>?_;refine A0.bb (A0.ii e.kids (X:=Unit) (λj _=>[(1,.box 1 0),(2,.box 2 0),(3,.box 3 0),(4,A7 j)]) (λj _=>[(1,.cells [.d (.int .i64 e.kind),.d (.str e.name),.d (.str e.type.name),.d (.slice (Ag e.type.args)),.d (.int .i64 e.type.pos),.d (.slice (Ag e.targs)),.d (.slice (Bj e.kids)),.d (.int .i64 e.pos)]),(2,.cells [.d (.int .i64 0),.d (.str []),.d (.str []),.d .nil,.d (.int .i64 0),.d .nil,.d .nil,.d (.int .i64 0)]),(3,.cells [.d (.int .i64 e.kind),.d (.str e.name),.d (.str e.type.mg),.d (.slice []),.d (.int .i64 e.type.pos),.d .nil,.acc 67,.d (.int .i64 e.pos)]),(67,.rows 8 (Bj ((e.kids.take j).map Bf)))]) (λj _=>True) () trivial sS (by simp[ble,A8,I0];exact⟨rfl,rfl,rfl⟩) ?_ ?_)
  rotate_left
  .intro j _ d hd E dp tk J _;have W:=Z d E (L.kids.2 d E);rw[tk];refine Ae J Mz λI u2=>?_;refine gI u2 ?_;clear u2 I;refine sK λI u2=>A0.bb ?_
   (refine lG Mz [] 9 [] λK z=>?_;refine ev ?_;refine ci (Ck hd) ?_;refine cc W ?_;refine⟨by simp,by simp only[Bc,D0];unfold lim sm at*;omega,?_⟩;(try refine ev ?_);apply z;clear z K;try simp only[A5,A9])
   refine u2 _ _ ?_;clear u2 I;refine lT Mz ?_;exact⟨(),trivial,sS,by simp[ble,A8,I0,Bp]⟩
  intro _ _;rw[Cx];refine Ae B6 Mz λI u2=>?_;refine A0.ss rfl ?_;simp only[A5,A9,Ac];refine u1 _ _<|sR Mz ?_;exact aR
end Go.Abs
/- stencil.interfaceOf in general -/
namespace Go.Abs
open Go Go.Proofs
abbrev deI(nm:A2)(x:SV):List SV:=[.d (.int .i64 2),.d (.str nm),.d .nil,.d .nil,x,.d (.str []),.d .nil,.d (.str []),.d .nil,.d .nil,.d (.str []),.d .nil,.d (.int .i64 0),.d (.int .i64 0),.d (.int .i64 0),.d (.str []),.d (.str []),.d .nil,.d (.int .i64 0),.d .nil,.d .nil,.d (.int .i64 0),.d (.int .i64 0)]
def B7s(p:Prog)(calls:List B8)(x:Ty):List Decl:=if Bb p x 2=true then[headD 2 x.mg [] (calls.filterMap (I4 p)++(Cd p [] x).map Ho)]else[]
end Go.Abs
/- stencil.applied, whose parameters are the caller's own -/
namespace Go.Abs
open Go Go.Proofs
end Go.Abs
/- stencil.methodOf -/
namespace Go.Abs
open Go Go.Proofs
def F8(ps E:List Param):List Param:=ps.zipWith (λa b=>⟨b.name,a.type,a.pos⟩) E
end Go.Abs
/- stencil.Type in general -/
namespace Go.Abs
open Go Go.Proofs
def B9g(M:B8->Option Decl)(p:Prog)(calls:List B8)(x:Ty):List Decl:=C0u M p calls x++B7s p calls x
end Go.Abs
/- the types and calls of castingsref21.Find can be named -/
namespace Go.Abs
open Go
theorem Ty.Mg.arg{t:Ty}(h:t.Mg):∀u,u∈t.args->u.Mg:=λu E=>by
 cases h with
 |loc i p O=>simp[Ty.args]at E
 |Ph n a p J U L I=>exact I u E
structure A4.Mq(s:A4):Prop where
 A1:s.A1.length<=100000
 params:∀f,f∈s.params->f.type.Mg
 result:s.result.Mg
theorem A4.Ni.mq{B:Nat}{s:A4}(h:s.Ni B):s.Mq:=⟨by have:=h.A1.1;omega,λf E=>(h.params.2 f E).mg,h.result.mg⟩
theorem A4.Mq.subst{v:List A2}{I:List Ty}(E:∀u,u∈I->u.Mg){s:A4}(h:s.Mq):(s.subst v I).Mq:=by refine⟨by simp only[A4.subst,Bc];exact h.A1,λf L=>?_,Ty.Mg.subst E h.result⟩;obtain⟨x,J,rfl⟩:=Au.1 L;exact Ty.Mg.subst E (h.params x J)
theorem A4.Mq.canon{s:A4}(h:s.Mq):s.canon.Mq:=by
 have O:=h.A1;have hs:∀u,u∈D7 s.A1.length->u.Mg:=λu L=>by obtain⟨i,J,rfl⟩:=Au.1 L;grind[E3e]
 refine⟨by grind[A4.canon,Xj],λf I=>?_,Ty.Mg.subst hs h.result⟩;obtain⟨i,x,E,J,rfl⟩:=mem_mapIdx I;exact Ty.Mg.subst hs (h.params x (Bm E))
theorem E1f{p:Prog}(hs:p.Sm)(ht:∀d,d∈p.decls->d.Tl)(hr:p.right=true){x:Ty}(U:∀u,u∈x.args->u.Mg):∀s,s∈Cv p [] x->s.Mq:=by
 intro s E;have key:∀{v:List A2} {y:A4},y.Ni 120000->(y.canon.subst v x.args).Mq:=λh=>A4.Mq.subst U h.mq.canon;have O:Ct [] x=none:=by simp[Ct,Fi,Cw]
 unfold Cv at E;rw[O]at E;simp at E;split at E;rename_i L;unfold H2 at E;rw[A6 L]at E;obtain⟨d,hd,_⟩:=N4 (by decide) L;rw[hd,Dh]at E;grind[Wm,Ic,Prog.B3n,Qb];unfold Gw at E;obtain⟨⟨d,i⟩,I,rfl⟩:=Au.1 E;have V:d∈p.decls:=Mt (Vt (Kr.1 I).1);have J:=(Kr.1 I).2;unfold J6 at J;simp at J;grind[Prog.B3n]
theorem D8t{p:Prog}(hs:p.Sm)(hr:p.right=true){x:Ty}(L:∀u,u∈x.args->u.Mg):∀f,f∈Bo p x->f.type.Mg:=by intro f E;unfold Bo at E;split at E;rename_i O;obtain⟨d,hd,_⟩:=N4 (by decide) O;rw[hd,Dh]at E;unfold fieldsD at E;obtain⟨y,J,rfl⟩:=Au.1 E;have I:=Qb hd;simp only[Prog.right,Bi,Dr]at hr;have h:=hr.1 d I;simp only[Decl.right,Nd,Bi,Dr]at h;exact Ty.Mg.subst L (Ty.A4d ((hs.decls.2 d I).fields.2 y J).type (h.2.2.1 y J).2);grind
inductive Ex.Mq:Ex->Prop where
 |mk (e:Ex):(e.kind=3\/e.kind=5->e.type.Mg)->(∀t,t∈e.targs->t.Mg)->(∀x,x∈e.kids->Ex.Mq x)->Ex.Mq e
theorem Ex.Mq.type{e:Ex}(h:e.Mq):e.kind=3\/e.kind=5->e.type.Mg:=by cases h;omega
theorem Ex.Mq.targs{e:Ex}(h:e.Mq):∀t,t∈e.targs->t.Mg:=by cases h;omega
theorem Ex.Mq.kids{e:Ex}(h:e.Mq):∀x,x∈e.kids->x.Mq:=by cases h;omega
theorem Ex.Mq.subst{v:List A2}{a:List Ty}(I:∀u,u∈a->u.Mg):∀{e:Ex},e.Mq->(e.subst v a).Mq:=by intro e;induction e using Ex.induct with|_ e O=>?_;intro h;rw[Ws];refine .mk _ (λL=>Ty.Mg.subst I (h.type L)) (λt ht=>?_) λx J=>?_;obtain⟨u,E,rfl⟩:=Au.1 ht;exact Ty.Mg.subst I (h.targs u E);obtain⟨u,E,rfl⟩:=Au.1 J;exact O u E (h.kids u E)
theorem Ex.A9r:∀{e:Ex},e.Sm->e.right=true->e.Mq:=by intro e;induction e using Ex.induct with|_ e J=>?_;intro hs h;rw[Ex.A1a,Bi,Bi]at h;refine .mk _ (λL=>Ty.A4d hs.type ?_) (λt ht=>Ty.A4d (hs.targs.2 t ht) ?_) λx I=>J x I (hs.kids.2 x I) (A7q h.1 x I);have E:=h.2.2;unfold Ex.T6 at E;rw[A6 (by grind[Ex.typed])]at E;grind;have E:=h.2.1;unfold Ex.B3x at E;grind
theorem G4z{c:D8}{e:Ex}{x:Ty}{g:A4}(h:Qz c e x=.inr g):g∈Cv c.p c.env x:=by unfold Qz at h;split at h;cases h;rename_i y E;split at h;cases h;split at h;cases h;split at h;cases h;split at h;cases h;cases h;exact Pd.1 (Bm E)
theorem G7u{p:Prog}(hs:p.Sm)(ht:∀d,d∈p.decls->d.Tl)(hr:p.right=true){vars:List Param}(hv:∀f,f∈vars->f.type.Mg):∀e:Ex,e.Mq->(Df ⟨p,false,[],vars⟩ e).2.bad=false->(Df ⟨p,false,[],vars⟩ e).1.Mg:=by
 intro e;induction e using Ex.induct with|_ e Z=>?_;intro O;rw[B5w];have L:∀(u z:Ty × F6),u.1.Mg->Sj u=z->z.2.bad=false->z.1.Mg:=λu z hu E I=>by grind[Sj]
 obtain⟨z,E⟩:∃z,A1q ⟨p,false,[],vars⟩ e (e.kids.map (Df ⟨p,false,[],vars⟩))=z:=⟨_,rfl⟩;rw[E];intro I;unfold A1q at E;split at E;unfold A4p at E;split at E;rename_i f W;split at E;subst E;cases I;grind;subst E;cases I;split at E;rename_i k3;unfold B4r at E;split at E;subst E;cases I;split at E;subst E;cases I;subst E;exact O.type (.inl k3);split at E;subst E;cases I;rename_i hk;split at E;subst E;cases I
 .rename_i v zs J;cases U:e.kids with
  |nil=>grind
  |cons w ws =>
   rw[U]at J;simp at J;obtain⟨rfl,rfl⟩:=J;have hw:=Z w (by grind) (O.kids w (by grind));clear Z;generalize Df ⟨p,false,[],vars⟩ w=v at*;generalize ws.map (Df ⟨p,false,[],vars⟩)=zs at*;split at E;grind;rename_i a0;have V:=hw (by grind);split at E;unfold A5w at E;split at E;subst E;cases I;rename_i g hg;have hm:=G4z hg;refine L _ z ?_ E I;exact Ty.Mg.subst O.targs (E1f hs ht hr V.arg g hm).result;split at E;unfold Zr at E;split at E;subst E;cases I;split at E;rename_i f W;split at E;subst E;cases I;exact L (f.type,_) z (D8t hs hr V.arg f (Bm W)) E I;subst E;cases I;rename_i k2 k4;unfold B2k at E;split at E;subst E;cases I;split at E;grind;subst E;exact O.type (.inr (by omega))
structure Am.Mq(s:Am):Prop where
 types:∀t,t∈s.types->t.Mg
 calls:∀c,c∈s.calls->∀t,t∈c.targs->t.Mg
theorem Am.Mq.lg{s:Am}(h:s.Mq)(b:Bool):Am.Mq { s with D9:=b }:=⟨h.types,h.calls⟩
theorem foldI{α β:Type}{Q:β->Prop}{f:β->α->β}:∀(l:List α) {s:β},(∀s a,a∈l->Q s->Q (f s a))->Q s->Q (l.foldl f s)
 |[],_,_,h=>h
 |a::l,s,E,h=>foldI l (λs b I=>E s b (by grind)) (E s a (by simp) h)
theorem B1g{s:Am}(hs:s.Mq){x:Ty}(E:x.Mg):(Gr s x).Mq:=by unfold Gr;split;exact⟨hs.types,hs.calls⟩;refine⟨λt ht=>?_,hs.calls⟩;rcases(A4a (cmp:=E6) (x:=x) s.types).2 t ht with rfl|h;exact E;exact hs.types t h
theorem F0x{s:Am}(hs:s.Mq){x:B8}(E:∀t,t∈x.targs->t.Mg):(Gp s x).Mq:=by unfold Gp;split;exact⟨hs.types,hs.calls⟩;refine⟨hs.types,λt ht=>?_⟩;rcases(A4a (cmp:=Dk) (x:=x) s.calls).2 t ht with rfl|h;exact E;exact hs.calls t h
section
variable {p:Prog} (hs:p.Sm) (ht:∀d,d∈p.decls->d.Tl) (hr:p.right=true)
include hs ht hr
theorem C9q{vars:List Param}(I:∀f,f∈vars->f.type.Mg){s:Am}(h:s.Mq){e:Ex}(J:e.Mq):(Nk p s e vars).Mq:=by refine foldI _ (λs x E h=>?_) h;have E:=A8y (Q:=Ex.Mq) (λe h x E=>h.kids x E) e J x E;unfold L0;split;exact B1g h (E.type (by omega));split;split;exact h;rename_i v vs O;unfold U6;split;exact⟨h.types,h.calls⟩;rename_i L;exact F0x (x:=⟨(Df ⟨p,false,[],vars⟩ v).1,x.name,x.targs⟩) (B1g (h.lg _) (G7u hs ht hr I v (E.kids v (by grind)) (by grind))) E.targs;omega
theorem G6y{s:Am}(h:s.Mq){x:Ty}(Z:x.Mg){c:B8}(hc:∀t,t∈c.targs->t.Mg):(S6 p s x c).Mq:=by
 have U:∀u,u∈Ka x c->u.Mg:=λu hu=>(C6.1 hu).elim (Z.arg u) (hc u);unfold S6;rcases E4o p x c.name with V|⟨j,d,V,hd,W⟩;grind;rw[V,A3 (by omega),Hx,hd];have J:=Bm hd;have I:=hs.decls.2 d J;have E:d.right=true:=by unfold Prog.right at hr;simp at hr;exact hr.1 d J
 unfold Decl.right Decl.Uc at E;rw[A6 W]at E;simp only[Bi,Dr]at E;have L:=((Prog.B3n hs ht hr J).2 W).mq;refine C9q hs ht hr (λf hf=>?_) h (Ex.Mq.subst U (Ex.A9r I.body E.2.2.2.2.2.2.2.2));obtain⟨g,hg,rfl⟩:=Au.1 hf;refine Ty.Mg.subst U ?_;unfold Jz at hg;rcases B5.1 hg with rfl|hg;refine .Ph _ _ _ E.1 I.name (by rw[Hj,Bc];exact I.vars.1) λt ht=>?_;obtain⟨v,O,rfl⟩:=Au.1 ht;exact .Ph _ _ _ (E.2.2.2.2.1 v O) (I.vars.2 v O) (by simp) (by simp);exact L.params g hg
theorem F1n{x:Ty}(O:x.Mg){out:Am}(U:out.Mq){c:B8}(L:∀t,t∈c.targs->t.Mg):(Ks p x out c).Mq:=by
 unfold Ks;split;exact U
 .rename_i g E;have I:g.Mq:=by unfold Mo at E;split at E;cases E;split at E;cases E;rename_i W J;split at E;cases E;exact E1f hs ht hr O.arg _ (Pd.1 (Bm J));grind
  refine G6y hs ht hr (B1g (foldI _ (λs t ht h=>?_) U) (Ty.Mg.subst L I.result)) O L;obtain⟨q,V,rfl⟩:=Au.1 ht;exact B1g h (Ty.Mg.subst L (I.params q V))
theorem F0c{s:Am}(h:s.Mq):(Li p s).Mq:=by refine foldI _ (λo x E I=>?_) h;have E:=h.types x E;refine foldI _ (λo c J I=>F1n hs ht hr E I (h.calls c J)) ?_;split;refine foldI _ (λs t ht h=>?_) I;obtain⟨f,L,rfl⟩:=Au.1 ht;exact B1g h (D8t hs hr E.arg f L);omega
theorem D8f:∀(k:Nat) {s:Am} (n:Int),s.Mq->(Iq p k s n).1.Mq
 |0,_,_,_=>⟨by simp[Iq],by simp[Iq]⟩
 |k+1,s,n,h=>by have E:Am.Mq Tt:=⟨by simp,by simp⟩;rw[Iq];split;grind;split;exact E;exact D8f k _ (F0c hs ht hr h)
theorem E9z:(Kt p).1.Mq:=by
 have E:p.main.Mq:=by unfold Prog.right at hr;simp only[Bi]at hr;exact Ex.A9r hs.main hr.2
 exact D8f hs ht hr _ _ (C9q hs ht hr (by simp) ⟨by simp,by simp⟩ E)
end
theorem C2d{p:Prog}:∀(k:Nat)(s:Am)(n:Int),(Iq p k s n).2=true->Vm (Iq p k s n).1=false
 |0,s,n,h=>by rfl
 |k+1,s,n,h=>by
  rw[Iq]at h |-;split at h
  grind;rename_i E;rw[A3 E];split at h;cases h;rename_i I;rw[A3 I];exact C2d k _ _ h
theorem H0w{s:Am}(h:Vm s=false):s.types.length+s.calls.length<=60/\(∀t,t∈s.types->t.Da<=3600)/\∀c,c∈s.calls->Ty.Bu c.targs<=3600:=by have E:=C9m h;unfold Vm at h;simp only[An3,List.any_eq_false,E4]at h;refine⟨by unfold Eu at E;exact E,λt ht=>?_,λc J=>?_⟩;have I:=h.1 t ht;have:=Ty.A1f t 0 (by omega);omega;have I:=h.2.1 c J;have:=Ty.A1f (.mk [] c.targs 0) 0 (by omega);grind[Ty.Tu,Ty.args]
structure Am.Fd(s:Am):Prop where
 sm:s.Sm
 types:∀t,t∈s.types->t.Ni 12000
 targs:∀c,c∈s.calls->(∀t,t∈c.targs->t.Ni 12000)/\Ty.Bu c.targs<=3600
 len:s.types.length+s.calls.length<=60
 tl:∀t,t∈s.types->t.Da<=3600
theorem F7d{p:Prog}(I:p.Fit)(ht:∀d,d∈p.decls->d.Tl)(hr:p.right=true)(h:(Kt p).2=true):(Kt p).1.Fd:=by have U:=C2d _ _ _ h;obtain⟨V,L,O⟩:=H0w U;have J:=E9z I.sm ht hr;refine⟨G1p I,λt ht=>⟨J.types t ht,by have:=L t ht;omega⟩,λc E=>⟨λt ht=>⟨J.calls c E t ht,?_⟩,O c E⟩,V,L⟩;have:=O c E;have:=Wh ht;omega
theorem Am.Fd.L7{p:Prog}{s:Am}(h:s.Fd){x:Ty}(E:x∈s.types):∀c,c∈Go.Abs.L7 p s.calls x->c.Ni:=λc L=>by obtain⟨d,hd,rfl⟩:=Au.1 L;have hd:=(Kr.1 hd).1;obtain⟨J,O⟩:=h.targs d hd;have I:=h.sm.calls.2 d hd;exact⟨⟨h.sm.types.2 x E,I.name,I.targs⟩,h.types x E,J,by grind⟩
end Go.Abs
/- bodies of instances: names that can be made of them; what the program and the reference make of them is the same up to places -/
namespace Go.Abs
open Go Go.Proofs
abbrev mtT(t:Ty):Ty:=.mk t.mg [] t.pos
inductive Ex.Rs:Ex->Prop where
 |mk (e:Ex):(e.kind=3\/e.kind=5\/e.type.name=[]/\e.type.args=[])->(e.kind=2\/e.targs=[])->(∀x,x∈e.kids->Ex.Rs x)->Ex.Rs e
variable {e:Ex}
theorem Ex.Rs.type(h:e.Rs):e.kind=3\/e.kind=5\/e.type.name=[]/\e.type.args=[]:=by cases h;omega
theorem Ex.Rs.targs(h:e.Rs):e.kind=2\/e.targs=[]:=by cases h;omega
theorem Ex.Rs.kids(h:e.Rs):∀x,x∈e.kids->x.Rs:=by cases h;omega
theorem Ex.B3o:∀{e:Ex},e.right=true->e.Rs:=by
 intro e;induction e using Ex.induct with|_ e J=>?_;intro h;rw[Ex.A1a,Bi,Bi]at h;refine .mk _ ?_ ?_ λx I=>J x I (A7q h.1 x I);have E:=h.2.2;unfold Ex.T6 at E;split at E;rename_i ht;unfold Ex.typed at ht;grind;grind
 .have E:=h.2.1;unfold Ex.B3x at E;rw[Dr]at E;cases ht:e.targs with
  |nil=>simp
  |cons t L =>simp_all
theorem E3o{v:List A2}(E:([]:A2) ∉v){a:List Ty}{t:Ty}(J:t.name=[])(I:t.args=[]):t.subst v a=.mk [] [] t.pos:=by grind[J8,Pr]
theorem C4e(q:Int):(Ty.mk [] [] q).mg=[]:=by rfl
theorem Ex.Rs.subst{v:List A2}(I:([]:A2) ∉v){a:List Ty}:∀{e:Ex},e.Rs->(e.subst v a).Rs:=by intro e;induction e using Ex.induct with|_ e O=>?_;intro h;rw[Ws];refine .mk _ ?_ ?_ λx L=>?_;rcases h.type with h|h|⟨J,U⟩;exact .inl h;exact .inr (.inl h);exact .inr (.inr (by show(e.type.subst v a).name=[]/\(e.type.subst v a).args=[];rw[E3o I J U];exact⟨rfl,rfl⟩));rcases h.targs with h|h;exact .inl h;exact .inr (by show e.targs.map _=[];grind);obtain⟨u,E,rfl⟩:=Au.1 L;exact O u E (h.kids u E)
theorem E5v(v:List A2)(a:List Ty)(t:Ty):(t.subst v a).pos=t.pos:=by rw[Uo];split <;> rfl
theorem G9p{v:List A2}(O:([]:A2) ∉v){a b:List Ty}(E:a.map Ty.er=b.map Ty.er):∀e:Ex,e.Rs->Bf (e.subst v a)=Bf (e.subst v b):=by
 intro e;induction e using Ex.induct with|_ e L=>?_;intro h;have W:(e.kids.map (Ex.subst v a)).map Bf=(e.kids.map (Ex.subst v b)).map Bf:=by rw[Dw,Dw];exact Hb λx I=>L x I (h.kids x I)
 have J:∀t:Ty,(t.subst v a).mg=(t.subst v b).mg:=λt=>A7t (by rw[Hq,Hq,E]);have U:∀t:Ty,(t.subst v a).pos=(t.subst v b).pos:=λt=>by rw[E5v,E5v]
 have V:Dg e.name (e.targs.map (Ty.subst v a))=Dg e.name (e.targs.map (Ty.subst v b)):=by rw[Dg,Dg,B6q];rw[Dw,Dw];exact Hb λt _=>by grind[Hq]
 rw[J5,J5,Ws,Ws];show Ex.mk e.kind (if e.kind=2 then Dg e.name (e.targs.map (Ty.subst v a))else e.name) (.mk (e.type.subst v a).mg [] (e.type.subst v a).pos) [] ((e.kids.map (Ex.subst v a)).map Bf) e.pos=Ex.mk e.kind (if e.kind=2 then Dg e.name (e.targs.map (Ty.subst v b))else e.name) (.mk (e.type.subst v b).mg [] (e.type.subst v b).pos) [] ((e.kids.map (Ex.subst v b)).map Bf) e.pos;grind
theorem G3y:∀e:Ex,e.Rs->Gg mtT Dg e=Bf e:=by
 intro e;induction e using Ex.induct with|_ e W=>?_;intro h;have V:e.kids.map (Gg mtT Dg)=e.kids.map Bf:=Hb λx L=>W x L (h.kids x L);rw[D8g,J5,V];unfold C0k;by_cases I:e.kind=3\/e.kind=5;rw[A6 I,A3 (by omega),h.targs.resolve_left (by omega)];rw[A3 I];have ht:=(h.type.resolve_left (by omega)).resolve_left (by omega);have E:∀t:Ty,t.name=[]->t.args=[]->t=.mk t.mg [] t.pos:=λt O U=>by obtain⟨n,a,q⟩:=t;simp only[Ty.name,Ty.args]at O U;subst O;subst U;rfl
 have J:=E e.type ht.1 ht.2;by_cases k2:e.kind=2;grind;rw[A3 k2,A3 k2,h.targs.resolve_left k2,<-J]
inductive Ex.Nq(B:Nat):Ex->Prop where
 |mk (e:Ex):(e.kind=3\/e.kind=5->e.type.Ni B)->(∀t,t∈e.targs->t.Ni B)->Ty.Bu e.targs<=B->(∀x,x∈e.kids->Ex.Nq B x)->Ex.Nq B e
variable {B:Nat}
theorem Ex.Nq.type(h:e.Nq B):e.kind=3\/e.kind=5->e.type.Ni B:=by cases h;omega
theorem Ex.Nq.targs(h:e.Nq B):(∀t,t∈e.targs->t.Ni B)/\Ty.Bu e.targs<=B:=by cases h;grind
theorem Ex.Nq.kids(h:e.Nq B):∀x,x∈e.kids->x.Nq B:=by cases h;omega
theorem Ex.Mq.nq :∀{e:Ex},e.Mq->e.M7<=B->e.Nq B:=by intro e;induction e using Ex.induct with|_ e J=>?_;intro h L;rw[Ex.B0v]at L;refine .mk _ (λI=>⟨h.type I,by omega⟩) (λt ht=>⟨h.targs t ht,by have:=Wh ht;omega⟩) (by omega) λx E=>J x E (h.kids x E) (by have:=B9t E;omega)
theorem D3v{v:List A2}{E:List Ty}{M:Nat}(J:4<=M)(I:∀u,u∈E->u.Da<=M):∀l:List Ty,4*Ty.Bu (l.map (Ty.subst v E))<=Ty.Bu l*M
 |[]=>by simp[Ty.Bu]
 |x::l=>by have L:=D3b (v:=v) J I x;have O:=D3v (v:=v) J I l;grind[Ty.Bu,Nat.add_mul]
theorem Ex.Nq.subst{B M:Nat}(J:4<=M){v:List A2}{a:List Ty}(I:∀u,u∈a->u.Ni M):∀{e:Ex},e.Nq B->(e.subst v a).Nq (B*M / 4):=by intro e;induction e using Ex.induct with|_ e U=>?_;intro h;rw[Ws];refine .mk _ (λO=>Ty.Ni.subst J I (h.type O)) (λt ht=>?_) ?_ λx L=>?_;obtain⟨u,E,rfl⟩:=Au.1 ht;exact Ty.Ni.subst J I (h.targs.1 u E);rw[Nat.le_div_iff_mul_le (by decide),Aq2];exact Dd (D3v J (λu E=>(I u E).len) e.targs) (Iv _ h.targs.2);obtain⟨u,E,rfl⟩:=Au.1 L;exact U u E (h.kids u E)
theorem Decl.A7s(d:Decl)(n:Int)(V:0<=n)(h:d.count n<=2000):d.body.M7<=240000:=by unfold Decl.count at h;generalize U:n+1+((d.name.length / 50:Nat):Int)+((d.recv.length / 50:Nat):Int)=m at h;obtain⟨a1,I⟩:=C5r d.A1 m;obtain⟨J,b2⟩:=C8f d.fields (Ca d.A1 m);obtain⟨W,L⟩:=E3v d.sigs (D4 d.fields (Ca d.A1 m));obtain⟨e1,Z⟩:=A2x d.vars (Eh d.sigs (D4 d.fields (Ca d.A1 m)));generalize O:Ja d.vars (Eh d.sigs (D4 d.fields (Ca d.A1 m)))=z at*;unfold Decl.Si at h;obtain⟨f1,_⟩:=A4.G3 d.sig z;split at h;have E:=Ex.B3u d.body (d.sig.count z) h;omega;omega
theorem F4m:Ps Jt (λd=>d.body.M7<=240000):=P0 Jt Decl.count (λd=>d.body.M7<=240000) (λ_=>rfl) (λ_ _ _=>rfl) (λx k=>(Decl.G3 x k).1) (λx k E h=>Decl.A7s x k E h)
theorem Prog.A7s(p:Prog)(h:p.count<=600):(∀d,d∈p.decls->d.body.M7<=240000)/\p.main.M7<=240000:=by unfold Prog.count at h;have E:=Ex.F7 p.main 0;obtain⟨L,J⟩:=F4m p.decls (p.main.count 0);have I:=Ex.B3u p.main 0 (by omega);grind
def Ik(F:Ex->Ex)(p:Prog)(c:B8):Option Decl:=match Ga p c.on c.name with
 |none=>none
 |some d=>match I4 p c with
  |none=>none
  |some g=>some ⟨3,c.on.mg,[],[],[],d.recv,[],⟨g.name,[],F8 g.params d.sig.params,g.result,0⟩,F (Jd d c.on c),0⟩
theorem B3f{p:Prog}(hr:p.right=true){d:Decl}(hd:d∈p.decls)(I:d.kind=3):(∀v,v∈d.vars->isName v=true)/\(∀f,f∈d.sig.A1->isName f.name=true)/\d.body.right=true:=by
 have E:d.right=true:=by unfold Prog.right at hr;simp at hr;exact hr.1 d hd
 unfold Decl.right Decl.Uc at E;rw[A6 I]at E;simp only[Bi,Dr]at E;refine⟨E.2.2.2.2.1,?_,E.2.2.2.2.2.2.2.2⟩;have:=E.2.2.2.2.2.2.2.1;simp only[A4.right,Qg,Nd,Bi,Dr]at this;grind
theorem B6y{p:Prog}(hr:p.right=true){d:Decl}(hd:d∈p.decls)(E:d.kind=3):([]:A2) ∉Ny d:=by obtain⟨I,O,_⟩:=B3f hr hd E;intro h;rcases C6.1 h with h|h;grind[isName];obtain⟨f,J,L⟩:=Au.1 h;grind[isName]
theorem A2c{p:Prog}{x:Ty}{m:A2}{d:Decl}(h:Ga p x m=some d):d∈p.decls/\d.kind=3/\Bb p x 1=true/\d.vars.length=x.args.length:=by unfold Ga at h;split at h;rename_i I;split at h;rename_i L E;split at h;rename_i J;cases h;have:=Ar6 E;unfold Ez at this;grind;grind;grind;grind
theorem B5v(p:Prog)(x:Ty)(m:A2):(J2 p x m<0/\Ga p x m=none)\/∃(j:Nat)(d:Decl),J2 p x m=j/\p.decls[j]?=some d/\Ga p x m=some d:=by
 unfold J2 Ga;by_cases E:Bb p x 1=true
 .rw[A6 E,A6 E];unfold N9 Cw;cases h:p.decls.findIdx? (Ez x.name m)with
  |none =>grind
  |some j =>obtain⟨I,J,O⟩:=Ai3.1 h;have L:p.decls.find? (Ez x.name m)=some p.decls[j]:=As8.2 ⟨J,j,I,rfl,λk U=>by grind⟩;grind
 grind
theorem E8w{c:B8}(E:c.Ni):∀u,u∈Ka c.on c->u.Ni 12000:=λu I=>(C6.1 I).elim (E.on.args u) (E.targs u)
theorem B8r{p:Prog}(U:p.count<=600)(hs:p.Sm)(hr:p.right=true){d:Decl}(hd:d∈p.decls)(L:d.kind=3){c:B8}(I:c.Ni):(Jd d c.on c).Nq 720000000/\(Jd d c.on c).Sm/\(Jd d c.on c).Rs:=by obtain⟨_,_,J⟩:=B3f hr hd L;have E:=(hs.decls.2 d hd).body;have O:=(Ex.A9r E J).nq ((Prog.A7s p U).1 d hd);refine⟨Ex.Nq.subst (B:=240000) (M:=12000) (by decide) (E8w I) O,Ex.Sm.subst (λu V=>(C6.1 V).elim (I.sm.on.arg u) (I.sm.targs.2 u)) _ E,Ex.Rs.subst (B6y hr hd L) (Ex.B3o J)⟩
theorem F5c{p:Prog}{c:B8}{g:A4}(h:I4 p c=some g):¬F5 (Cd p [] c.on) c.name<0/\∃s,(Cd p [] c.on)[(F5 (Cd p [] c.on) c.name).toNat]?=some s/\s∈Cd p [] c.on/\s.name=c.name/\s.A1.length=c.targs.length/\g=Dy c s:=by grind[I4,A7o,F5,Lo]
def H9(p:Prog)(cs:List B8)(x:Ty):List Decl:=B9g (Ik Bf p) p (Ww p cs x).calls x
theorem D5m{p:Prog}{cs:List B8}{x:Ty} :∀c,c∈L7 p cs x->c.on=x:=λc h=>by obtain⟨d,_,rfl⟩:=Au.1 h;rfl
theorem A6p.one{P:Program}{f:FuncId}{args:List SV}{r0:SV}(h:A6p P f args λr=>r=r0):Ab P f args r0 :=⟨h.1,λC β vs O E=>(h.2 C β vs O E).mono λ_ _ ⟨r,v,S',β',L,I,U,J⟩=>⟨v,S',β',I,U,L ▸ J⟩⟩
end Go.Abs
