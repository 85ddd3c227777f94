/- the signatures that right programs of few parts have: names that mangle takes, and how long they get; the signature for a call as a plain function -/
import Derived.Test.YtieakoebgfiniaaGreatDoorZW08
import Derived.Test.YtieakoebgfiniaaGreatDoorZU01
set_option linter.all false
set_option maxHeartbeats 4000000
set_option maxRecDepth 100000
namespace Go.Abs
open Go Go.Proofs Tryz
def E2n{v:List A2}{E:List Ty}{M:Nat}(U:4<=M)(Z:∀u,u∈E->u.Dv<=M):∀t:Ty,4*(t.subst v E).Dv<=t.Dv*M:=by
 intro t
 induction t using Ty.induct with
 |h t V =>
 have J:4<=t.Dv:=by rw[Ty.Ug];omega
 rw[Wo];split
 .rename_i O;have L:=Z _ (C2o O.2.1 O.2.2);generalize(E[(D5 t.name v 0).toNat]?).getD default=u at L;obtain⟨n,a,q⟩:=u;have e:(Ty.mk (Ty.mk n a q).name (Ty.mk n a q).args t.pos).Dv=(Ty.mk n a q).Dv:=by rw[Ty.Ug,Ty.Ug];rfl
  rw[e];exact Nat.mul_le_mul J L
 .have W:∀l:List Ty,(∀t,t∈l->4*(t.subst v E).Dv<=t.Dv*M)->4*Ty.C0 (l.map (Ty.subst v E))<=Ty.C0 l*M:=by
   intro l
   induction l with
   |nil=>intro _;simp[Ty.C0]
   |cons x l I =>intro h;have h1:=h x (by simp);have h2:=I λt ht=>h t (by simp[ht]);rw[Ck,Ty.C0,Ty.C0,Hw];omega
  have h3:=W t.args V;rw[Ty.Ug,Ty.Ug t];show 4*(t.name.length+4+Ty.C0 (t.args.map (Ty.subst v E)))<=_;rw[Hw];have:4*(t.name.length+4)<=(t.name.length+4)*M:=by rw[Ap7 4];exact Ak9 _ U
  omega
structure A3.Tl(s:A3):Prop where
 A1:s.A1.length<=2000/\∀f,f∈s.A1->f.bound.Dv<=120000
 params:s.params.length<=2000/\∀f,f∈s.params->f.type.Dv<=120000
 result:s.result.Dv<=120000
 name:s.name.length<=120000
structure Decl.Tl(d:Decl):Prop where
 fields:∀f,f∈d.fields->f.type.Dv<=120000
 sigs:∀s,s∈d.sigs->s.Tl
 sig:d.sig.Tl
def Ty.To{t:Ty}{k:Int}(E:0<=k)(h:t.count k<=2000):t.Dv<=120000:=by have:=Ty.A0z t k h;omega
def C3j:Nj C5 (λf=>f.bound.Dv<=120000):=Mw C5 (λf n=>f.bound.count (n+1+((f.name.length / 50:Nat):Int))) (λf=>f.bound.Dv<=120000) (λ_=>rfl) (λ_ _ _=>rfl)
 (λx k=>by have:=Ty.F6 x.bound (k+1+((x.name.length / 50:Nat):Int));omega)
 (λx k E h=>Ty.To (by omega) h)
def C7k:Nj D2 (λf=>f.type.Dv<=120000):=Mw D2 (λf n=>f.type.count (n+1+((f.name.length / 50:Nat):Int))) (λf=>f.type.Dv<=120000) (λ_=>rfl) (λ_ _ _=>rfl)
 (λx k=>by have:=Ty.F6 x.type (k+1+((x.name.length / 50:Nat):Int));omega)
 (λx k E h=>Ty.To (by omega) h)
def A3.To(s:A3)(n:Int)(W:0<=n)(h:s.count n<=2000):s.Tl:=by unfold A3.count at h;obtain⟨O,I⟩:=C3j s.A1 (n+((s.name.length / 50:Nat):Int));obtain⟨U,E⟩:=C7k s.params (C5 s.A1 (n+((s.name.length / 50:Nat):Int)));have L:=Ty.F6 s.result (D2 s.params (C5 s.A1 (n+((s.name.length / 50:Nat):Int))));have J:=(I (by omega) (by omega)).1;have V:=(E (by omega) (by omega)).1;exact⟨⟨by omega,(I (by omega) (by omega)).2⟩,⟨by omega,(E (by omega) (by omega)).2⟩,Ty.To (by omega) h,by omega⟩
def D6u:Nj En A3.Tl:=Mw En A3.count A3.Tl (λ_=>rfl) (λ_ _ _=>rfl) (λx k=>(A3.Gt x k).1) (λx k E h=>A3.To x k E h)
def Decl.To(d:Decl)(n:Int)(h0:0<=n)(h:d.count n<=2000):d.Tl:=by
 unfold Decl.count at h;generalize J:n+1+((d.name.length / 50:Nat):Int)+((d.recv.length / 50:Nat):Int)=m at h;obtain⟨V,W⟩:=C3j d.A1 m;obtain⟨b1,E⟩:=C7k d.fields (C5 d.A1 m);obtain⟨L,I⟩:=D6u d.sigs (D2 d.fields (C5 d.A1 m));obtain⟨e1,U⟩:=A2z d.vars (En d.sigs (D2 d.fields (C5 d.A1 m)));generalize Z:Ix d.vars (En d.sigs (D2 d.fields (C5 d.A1 m)))=z at*;unfold Decl.S6 at h;obtain⟨f1,_⟩:=A3.Gt d.sig z;have O:=Ex.F6 d.body (d.sig.count z);split at h
 .exact⟨(E (by omega) (by omega)).2,(I (by omega) (by omega)).2,A3.To d.sig z (by omega) (by omega)⟩
 .omega
def H3i:Nj J3 Decl.Tl:=Mw J3 Decl.count Decl.Tl (λ_=>rfl) (λ_ _ _=>rfl) (λx k=>(Decl.Gt x k).1) (λx k E h=>Decl.To x k E h)
def Prog.To(p:Prog)(h:p.count<=600):∀d,d∈p.decls->d.Tl:=by unfold Prog.count at h;have J:=Ex.F6 p.main 0;obtain⟨I,E⟩:=H3i p.decls (p.main.count 0);exact(E (by omega) (by omega)).2
structure Ty.Ni(B:Nat)(t:Ty):Prop where
 mg:t.Mg
 len:t.Dv<=B
structure A3.Ni(B:Nat)(s:A3):Prop where
 sm:s.Sm
 A1:s.A1.length<=2000/\∀f,f∈s.A1->f.bound.Ni B
 params:s.params.length<=2000/\∀f,f∈s.params->f.type.Ni B
 result:s.result.Ni B
 nm:s.name.length<=1000000
def A3.D0y{s:A3}(hs:s.Sm)(ht:s.Tl)(hr:s.right=true):s.Ni 120000:=by
 simp only[A3.right,Pr,Mb,Bb,Dm]at hr;exact⟨hs,⟨ht.A1.1,λf E=>⟨Ty.A6c (hs.A1.2 f E).bound (hr.1.1.2 f E).2,ht.A1.2 f E⟩⟩,⟨ht.params.1,λf E=>⟨Ty.A6c (hs.params.2 f E).type (hr.1.2 f E).2,ht.params.2 f E⟩⟩,
  ⟨Ty.A6c hs.result hr.2,ht.result⟩,Cp ht.name (by decide)⟩
def Ty.Ni.subst{B M:Nat}(L:4<=M){v:List A2}{I:List Ty}(J:∀u,u∈I->u.Ni M){t:Ty}(h:t.Ni B):(t.subst v I).Ni (B*M / 4):=by refine⟨Ty.Mg.subst (λu E=>(J u E).mg) h.mg,?_⟩;rw[Nat.le_div_iff_mul_le (by decide),Ap7];exact Cp (E2n L (λu E=>(J u E).len) t) (Hp _ h.len)
def A3.Ni.subst{B M:Nat}(I:4<=M){v:List A2}{L:List Ty}(O:∀u,u∈L->u.Ni M)(has:∀u,u∈L->u.Sm){s:A3}(h:s.Ni B):(s.subst v L).Ni (B*M / 4):=by
 refine⟨h.sm.subst has,⟨by simp only[A3.subst,Bc];exact h.A1.1,λf J=>?_⟩,⟨by simp only[A3.subst,Bc];exact h.params.1,λf J=>?_⟩,h.result.subst I O,h.nm⟩
 .obtain⟨x,E,rfl⟩:=Au.1 J;exact(h.A1.2 x E).subst I O
 .obtain⟨x,E,rfl⟩:=Au.1 J;exact(h.params.2 x E).subst I O
def F5y(i:Nat)(h:i<=100000):(U7 i).Ni 12:=by refine⟨D3e i h,?_⟩;have:=B5s i h;rw[Ty.Ug];simp only[U7,Ty.name,Ty.args,Ty.C0,E0,Vt,Bg];omega
theorem A3.Ni.canon{B:Nat}{s:A3}(h:s.Ni B):s.canon.Ni (B*12 / 4):=by
 have O:=h.A1.1;have hs:∀u,u∈D8 s.A1.length->u.Ni 12:=λu L=>by obtain⟨i,J,rfl⟩:=Au.1 L;exact F5y i (by have:=Ar8.1 J;omega)
 refine⟨h.sm.canon,⟨by simp only[A3.canon,Yf];exact h.A1.1,λf I=>?_⟩,⟨by simp only[A3.canon,Vy];exact h.params.1,λf I=>?_⟩,h.result.subst (by decide) hs,h.nm⟩
 .obtain⟨i,x,E,J,rfl⟩:=mem_mapIdx I;exact(h.A1.2 x (C6 E)).subst (by decide) hs
 .obtain⟨i,x,E,J,rfl⟩:=mem_mapIdx I;exact(h.params.2 x (C6 E)).subst (by decide) hs
def C2k{α:Type}(f:α->A2)(c:Nat):∀l:List α,(∀x,x∈l->(f x).length<=c)->(l.flatMap f).length<=l.length*c
 |[],_=>by simp
 |a::l,h=>by rw[Zw,B6,Bg,Nat.succ_mul];have:=C2k f c l λx E=>h x (by simp[E]);have:=h a (by simp);omega
def A3.Ni.mono{B C:Nat}(h:B<=C){s:A3}(k:s.Ni B):s.Ni C :=
 ⟨k.sm,⟨k.A1.1,λf E=>⟨(k.A1.2 f E).mg,Cp (k.A1.2 f E).len h⟩⟩,⟨k.params.1,λf E=>⟨(k.params.2 f E).mg,Cp (k.params.2 f E).len h⟩⟩,⟨k.result.mg,Cp k.result.len h⟩,k.nm⟩
def A3.Ni.E4q{s:A3}(h:s.Ni 1200000000):(Jw s).length<=30000000000000:=by
 have I:=h.canon;have J:=I.A1;have L:=I.params;have hr:=I.result;have e1:=Ty.Xv s.canon.result;have Z:=A9s s.name;have e3:=h.nm;have U:(Jc s.canon.A1).length<=s.canon.A1.length*7200000002:=C2k _ _ _ λf E=>by have:=(J.2 f E).len;have:=Ty.Xv f.bound;rw[B6];simp only[Bg,Ca];omega
 have W:(Ja s.canon.params).length<=s.canon.params.length*7200000002:=C2k _ _ _ λf E=>by have:=(L.2 f E).len;have:=Ty.Xv f.type;rw[B6];simp only[Bg,Ca];omega
 have O:s.canon.A1.length*7200000002<=2000*7200000002:=Hp _ J.1;have V:s.canon.params.length*7200000002<=2000*7200000002:=Hp _ L.1;unfold Jw;simp only[B6,Bg,Ca];have:=hr.len;omega
def A3.Ni.dum{s:A3}(h:s.Ni 1200000000):C8u s:=by
 have I:=h.canon;have hr:=I.result;refine⟨h.sm,λf E=>⟨(I.A1.2 f E).mg,?_⟩,λf E=>⟨(I.params.2 f E).mg,?_⟩,⟨hr.mg,?_⟩,Cp h.E4q (by decide)⟩
 .have:=(I.A1.2 f E).len;unfold A9c;omega
 .have:=(I.params.2 f E).len;unfold A9c;omega
 .have:=hr.len;unfold A9c;omega
theorem Prog.B1e{p:Prog}(hs:p.Sm)(ht:∀d,d∈p.decls->d.Tl)(hr:p.right=true){d:Decl}(hd:d∈p.decls):(∀s,s∈d.sigs->s.Ni 120000)/\(d.kind=3->d.sig.Ni 120000):=by simp only[Prog.right,Bb,Dm]at hr;have h:=hr.1 d hd;simp only[Decl.right,Bb,Dm]at h;have I:=hs.decls.2 d hd;refine⟨λs E=>A3.D0y (I.sigs.2 s E) ((ht d hd).sigs s E) (h.2.2.2.1 s E),λL=>?_⟩;have J:=h.2.2.2.2.2;unfold Decl.T2 at J;rw[A8 L]at J;simp only[Bb]at J;exact A3.D0y I.sig (ht d hd).sig J.2.2.1
def A5h{p:Prog}(hs:p.Sm)(ht:∀d,d∈p.decls->d.Tl)(hr:p.right=true){x:Ty}(U:x.Sm)(W:∀u,u∈x.args->u.Ni 12000):∀s,s∈C7 p [] x->s.Ni 1080000000:=by
 intro s E;have E:=(Z3 _).mem_iff.1 E;have key:∀{v:List A2} {y:A3},y.Ni 120000->(y.canon.subst v x.args).Ni 1080000000:=λh=>A3.Ni.subst (B:=360000) (M:=12000) (by decide) W U.arg h.canon;have V:Cs [] x=none:=by simp[Cs,Ep,Dr]
 unfold Cw at E;rw[V]at E;simp only[Xa,Sk,I0,Fx]at E;split at E
 .rename_i O;unfold Gs at E;rw[A8 O]at E;obtain⟨d,hd,_⟩:=Mm (by decide) O;rw[hd,Dz]at E;unfold Vm Hn at E;obtain⟨⟨y,i⟩,J,rfl⟩:=Au.1 E;have L:=Ji (W7 (Jz.1 J).1);exact key ((Prog.B1e hs ht hr (P9 hd)).1 y L)
 .unfold Gk at E;obtain⟨⟨d,i⟩,J,rfl⟩:=Au.1 E;have L:d∈p.decls:=Ji (W7 (Jz.1 J).1);have I:=(Jz.1 J).2;unfold Ii at I;simp only[Bb,Dp]at I;exact key ((Prog.B1e hs ht hr L).2 (by first|exact I.1.1.1|exact I.1.1|exact I.1))
def H9(l:List Param):List Param:=l.mapIdx λi f=>⟨[112]++Lib.itoa (i:Nat),Pd f.type,0⟩
def E1(c:B9)(s:A3):A3:=⟨Gq c.name c.targs,[],H9 (s.params.map (Param.subst (Ad s.A1) c.targs)),Pd (s.result.subst (Ad s.A1) c.targs),0⟩
def B0s(l:List A3)(c:B9):Option A3:=if Fb l c.name<0 then none else
 if((l[(Fb l c.name).toNat]?).getD Io).A1.length=c.targs.length then some (E1 c ((l[(Fb l c.name).toNat]?).getD Io))else none
def Hk(p:Prog)(c:B9):Option A3:=B0s (C7 p [] c.on) c
def sgR:Option A3->SV
 |none=>.tuple [Cy Io,Aw false]
 |some s=>.tuple [Cy s,Aw true]
def C2g{l:List A3}{m:A2}(h:¬Fb l m<0):∃s,l[(Fb l m).toNat]?=some s/\s∈l:=by
 unfold Fb at*;rcases N4 (λs:A3=>decide (s.name=m)) l with⟨E,_⟩|⟨j,s,E,I,_⟩
 .rw[E]at h;exact absurd (by decide) h
 .rw[E,Je];exact⟨s,I,C6 I⟩
structure B9.Ni(c:B9):Prop where
 sm:c.Sm
 on:c.on.Ni 12000
 targs:∀t,t∈c.targs->t.Ni 12000
 tl:Ty.C0 c.targs<=12000000
theorem Ty.Ni.args{t:Ty}(h:t.Ni 12000):∀u,u∈t.args->u.Ni 12000:=λu E=>by
 have L:=h.len;have U:=A6a E;rw[Ty.Ug]at L;obtain⟨J,_⟩:=h;refine⟨?_,by omega⟩;cases J with
 |loc i p O=>simp[Ty.args]at E
 |Pg n a p _ _ _ I=>exact I u E
def E4g{l:List Param}{j:Nat}{d:Param}(h:l[j]?=some d):H9 (l.take (j+1))=H9 (l.take j)++[⟨[112]++Lib.itoa (j:Nat),Pd d.type,0⟩]:=by
 have I:=(Az.1 h).1;have E:(l.take j).length=j:=by rw[D4];omega
 rw[J0 I,(Az.1 h).2];unfold H9;rw[List.mapIdx_append,E];simp
def A7u(l:List Param):(H9 l).length=l.length:=by simp[H9]
abbrev agS(n:A2)(r:A2)(x:SV):List SV:=[.d (.str n),.d .nil,x,.d (.str r),.d (.slice []),.d (.int .i64 0),.d (.int .i64 0)]
abbrev Jp:List Nat:=[0,1,2,3,4,5,6,7,8,9,10,11,33,64,900]
def D2p(p:Prog)(h:p.Sm)(ht:∀d,d∈p.decls->d.Tl)(hr:p.right=true)(c:B9)(J:c.Ni):Aa prog 69 [Ct p,caV c] (sgR (Hk p c)):=by
 have U:=A5h h ht hr J.sm.on J.on.args;have hS:=A5z p h [] (by simp) (by simp) c.on J.sm.on;have a0:=Wi h [] c.on;have hF:=B1g (C7 p [] c.on) c.name a0;unfold Hk B0s;have E:=@C2g (C7 p [] c.on) c.name;rw[show Dr (λs:A3=>decide (s.name=c.name)) (C7 p [] c.on)=Fb (C7 p [] c.on) c.name from rfl]at hF;generalize C7 p [] c.on=l at*;generalize Fb l c.name=n at*;by_cases O:n<0
 .rw[A8 O];refine cB func69 ?_;refine sR Jp ?_;refine sC hS Jp ?_;refine sC hF Jp<|sK λW u1=>?_
  (refine sG Jp [] 12 [] λK z=>?_;refine Ap O ?_;apply z;clear z K)
  refine tI ?_;refine sR Jp ?_;exact aR
 rw[A6 O];obtain⟨s,hs,a2⟩:=E O;have ac:0<=n:=by omega
 have ab:n<l.length:=by have:=(Az.1 hs).1;omega
 rw[hs,Dz];have I:=U s a2;by_cases hl:s.A1.length=c.targs.length;rotate_left
 .have L:¬(s.A1.length:Int)=(c.targs.length:Int):=by omega
  rw[A6 hl];refine cB func69 ?_;refine sR Jp ?_;refine sC hS Jp ?_;refine sC hF Jp<|sK λW u1=>?_
  (refine sG Jp [] 12 [] λK z=>?_;refine Ap O ?_;refine⟨by omega,_,D1 hs,rfl,?_⟩;(try refine Ap L ?_);apply z;clear z K)
  refine tI ?_;refine sR Jp ?_;exact aR
 rw[A8 hl];have L:(s.A1.length:Int)=(c.targs.length:Int):=by omega
 have a1:=R3 s.A1 I.sm.A1.1;rw[show s.A1.map (·.name)=Ad s.A1 from rfl]at a1;have hM:=C7n c.name J.sm.name c.targs J.sm.targs.1 (λt h=>(J.targs t h).mg) (by have:=J.tl;omega);have a6:=Pm (Ad s.A1) c.targs J.sm.targs.2 s.result I.sm.result;have hq:=A3.Ni.subst (v:=Ad s.A1) (by decide:4<=12000) J.targs J.sm.targs.2 I;have hP:=B4p (s.result.subst (Ad s.A1) c.targs) hq.result.mg (Cp hq.result.len (by decide));have ad:=I.params.1;have a9:=I.params.2;have a4:=I.sm.params.2;have e1:E1 c s=⟨Gq c.name c.targs,[],H9 (s.params.map (Param.subst (Ad s.A1) c.targs)),Pd (s.result.subst (Ad s.A1) c.targs),0⟩:=rfl;rw[e1];generalize s.result.subst (Ad s.A1) c.targs=rt at*;generalize Gq c.name c.targs=nm at*;generalize aa:Ad s.A1=nn at*;refine cB func69 ?_;refine sR Jp ?_;refine sC hS Jp ?_;refine sC hF Jp<|sK λW u1=>?_
 (refine sG Jp [] 12 [] λK z=>?_;refine Ap O ?_;refine⟨by omega,_,D1 hs,rfl,?_⟩;(try refine Ap L ?_);apply z;clear z K)
 refine kI u1 ?_;clear u1 W
 (refine sV Jp λK z=>?_;refine ci (D1 hs) ?_;refine cc a1 ?_;apply z;clear z K)
 (refine sG Jp [] 17 gg λK z=>?_;refine ev ?_;refine cc hM ?_;refine ci (D1 hs) ?_;refine cc a6 ?_;refine cc hP ?_;apply z;clear z K)
 refine A0.Rb 900 5 9 2 rfl rfl (by decide)<|kR Jp λW u1=>?_;refine A0.bb (A0.ii s.params (X:=Unit) (λj _=>[(3,.box 3 0),(4,.box 4 0),(6,.d (.slice (B0 l))),(7,A5 n),(8,Cc nn),(9,.box 9 0),(10,A5 j)])
  (λj _=>[(3,.cells (caS c)),(4,.cells [.d (.str []),.d .nil,.d .nil,.d (.str []),.d .nil,.d (.int .i64 0),.d (.int .i64 0)]),(9,.cells (agS nm rt.mg (.acc 900))),(900,.rows 5 (Av (H9 ((s.params.take j).map (Param.subst nn c.targs)))))])
  (λ_ _=>True) () trivial sS (by simp[ble,A7,Av,H9];exact⟨rfl,rfl,rfl⟩) ?_ ?_)
 rotate_left
 .intro j _ d hd E dp tk a7 _;have hj:=(Az.1 hd).1;have hit:=C1c j (by unfold sm;omega);have a':=Lib.itoa_length_le j (by omega) (by omega);rw[<-Vt]at hit;have Z:=Ty.Ni.subst (v:=nn) (by decide:4<=12000) J.targs (a9 d E);have a5:=Pm nn c.targs J.sm.targs.2 d.type (a4 d E).type;have a3:=B4p (d.type.subst nn c.targs) Z.mg (by have:=Z.len;omega);have a8:(s.params.map (Param.subst nn c.targs))[j]?=some (Param.subst nn c.targs d):=by rw[Df,hd];rfl
  have e2:Av (H9 ((s.params.take (j+1)).map (Param.subst nn c.targs)))=Av (H9 ((s.params.take j).map (Param.subst nn c.targs)))++[G9 ⟨[112]++Lib.itoa (j:Nat),Pd (d.type.subst nn c.targs),0⟩]:=by rw[List.map_take,E4g a8,List.map_take];simp[Av,Param.subst]
  have e3:(Av (H9 ((s.params.take j).map (Param.subst nn c.targs)))).length=j:=by rw[A7g,A7u,Bc,D4];omega
  rw[e2];generalize Av (H9 ((s.params.take j).map (Param.subst nn c.targs)))=PR at*;generalize d.type.subst nn c.targs=dt at*;generalize Lib.itoa (j:Nat)=ds at*;refine sK λV u2=>?_
  (refine sV Jp λK z=>?_;refine⟨by omega,_,D1 hs,rfl,?_⟩;(try refine Ap a7 ?_);apply z;clear z K)
  refine gI u2 ?_;clear u2 V;refine sK λV u2=>A0.bb ?_
  (refine sG Jp [] 14 gh λK z=>?_;refine ev ?_;refine ci (D1 hs) ?_;refine ci (Du hd) ?_;refine cc a5 ?_;apply z;clear z K)
  (refine lG Jp [] 9 [] λK z=>?_;refine ev ?_;refine cc hit ?_;refine⟨by(try simp only[B6,Bg,Ca]);unfold lim;omega,?_⟩;(try refine Ap e3 ?_);refine⟨_,.inl ⟨_,rfl,a3,rfl⟩,?_⟩;(try refine Ap e3 ?_);refine⟨by simp,by(try simp only[e3]);unfold lim;omega,?_⟩;(try refine Ap e3 ?_);apply z;clear z K;try simp only[A4,Ac])
  refine u2 _ _ ?_;clear u2 V
  (refine lV Jp λK z=>?_;refine cl ?_;apply z;clear z K;try simp only[A4,])
  exact⟨(),trivial,sS,by simp[ble,A7,G9]⟩
 intro _ _;rw[Ci];refine sK λV u2=>?_
 (refine sV Jp λK z=>?_;refine⟨by omega,_,D1 hs,rfl,?_⟩;(try refine Ap B3 ?_);apply z;clear z K)
 refine A0.ss rfl ?_;simp only[A4,Ac,Af];refine u1 _ _ ?_;clear u2 V u1 W;refine sR Jp ?_;exact aR
end Go.Abs
