import Derived.Test.YtoajimpjknbnoaaGreatDoorKW08
import Derived.Test.YtoajimpjknbnoaaGreatDoorKW21
set_option linter.all false
set_option maxHeartbeats 4000000
set_option maxRecDepth 100000
namespace Go.iA
open Go Go.Proofs Tryz
def cp{v:List A3}{E:List Ty}{M:Nat}(V:4<=M)(Z:∀u,u∈E->u.Ea<=M):∀t:Ty,4*(t.subst v E).Ea<=t.Ea*M:=by
 intro t
 induction t using Ty.induct with
 |h t U =>
 have J:4<=t.Ea:=by rw[yA];omega
 rw[W1];split
 .rename_i L;have O:=Z _ (aQ L.2.1 L.2.2);generalize(E[(Du t.name v 0).toNat]?).getD default=u at O;obtain⟨n,a,q⟩:=u;have e:(Ty.mk (Ty.mk n a q).name (Ty.mk n a q).args t.pos).Ea=(Ty.mk n a q).Ea:=by rw[yA,yA];rfl
  rw[e];exact Nat.mul_le_mul J O
 .have W:∀l:List Ty,(∀t,t∈l->4*(t.subst v E).Ea<=t.Ea*M)->4*fA (l.map (Ty.subst v E))<=fA l*M:=by
   intro l
   induction l with
   |nil=>intro _;simp[fA]
   |cons x l I =>intro h;have h1:=h x (by simp);have h2:=I λt ht=>h t (by simp[ht]);rw[Cj,fA,fA,Ii];omega
  have h3:=W t.args U;rw[yA,yA t];show 4*(t.name.length+4+fA (t.args.map (Ty.subst v E)))<=_;rw[Ii];have:4*(t.name.length+4)<=(t.name.length+4)*M:=by rw[qE 4];exact IG _ V
  omega
structure A4.Tl(s:A4):Prop where
 A1:s.A1.length<=2000/\∀f,f∈s.A1->f.bound.Ea<=120000
 params:s.params.length<=2000/\∀f,f∈s.params->f.type.Ea<=120000
 result:s.result.Ea<=120000
 name:s.name.length<=120000
structure Decl.Tl(d:Decl):Prop where
 fields:∀f,f∈d.fields->f.type.Ea<=120000
 sigs:∀s,s∈d.sigs->s.Tl
 sig:d.sig.Tl
def Ty.V4{t:Ty}{k:Int}(E:0<=k)(h:t.count k<=2000):t.Ea<=120000:=by have:=DA t k h;omega
def LV:Pb Cf (λf=>f.bound.Ea<=120000):=P1 Cf (λf n=>f.bound.count (n+1+((f.name.length / 50:Nat):Int))) (λf=>f.bound.Ea<=120000) (λ_=>rfl) (λ_ _ _=>rfl)
 (λx k=>by have:=Ty.Fu x.bound (k+1+((x.name.length / 50:Nat):Int));omega)
 (λx k E h=>Ty.V4 (by omega) h)
def UT:Pb Dj (λf=>f.type.Ea<=120000):=P1 Dj (λf n=>f.type.count (n+1+((f.name.length / 50:Nat):Int))) (λf=>f.type.Ea<=120000) (λ_=>rfl) (λ_ _ _=>rfl)
 (λx k=>by have:=Ty.Fu x.type (k+1+((x.name.length / 50:Nat):Int));omega)
 (λx k E h=>Ty.V4 (by omega) h)
def A4.V4(s:A4)(n:Int)(O:0<=n)(h:s.count n<=2000):s.Tl:=by unfold A4.count at h;obtain⟨V,I⟩:=LV s.A1 (n+((s.name.length / 50:Nat):Int));obtain⟨L,E⟩:=UT s.params (Cf s.A1 (n+((s.name.length / 50:Nat):Int)));have U:=Ty.Fu s.result (Dj s.params (Cf s.A1 (n+((s.name.length / 50:Nat):Int))));have J:=(I (by omega) (by omega)).1;have W:=(E (by omega) (by omega)).1;exact⟨⟨by omega,(I (by omega) (by omega)).2⟩,⟨by omega,(E (by omega) (by omega)).2⟩,Ty.V4 (by omega) h,by omega⟩
def pZ:Pb Ez A4.Tl:=P1 Ez A4.count A4.Tl (λ_=>rfl) (λ_ _ _=>rfl) (λx k=>(A4.H9 x k).1) (λx k E h=>A4.V4 x k E h)
def Decl.V4(d:Decl)(n:Int)(W:0<=n)(h:d.count n<=2000):d.Tl:=by unfold Decl.count at h;generalize hm:n+1+((d.name.length / 50:Nat):Int)+((d.recv.length / 50:Nat):Int)=m at h;obtain⟨a1,a2⟩:=LV d.A1 m;obtain⟨U,E⟩:=UT d.fields (Cf d.A1 m);obtain⟨Z,I⟩:=pZ d.sigs (Dj d.fields (Cf d.A1 m));obtain⟨J,V⟩:=QD d.vars (Ez d.sigs (Dj d.fields (Cf d.A1 m)));generalize L:Jb d.vars (Ez d.sigs (Dj d.fields (Cf d.A1 m)))=z at*;unfold Decl.S8 at h;obtain⟨f1,_⟩:=A4.H9 d.sig z;have O:=Ex.Fu d.body (d.sig.count z);split at h;exact⟨(E (by omega) (by omega)).2,(I (by omega) (by omega)).2,A4.V4 d.sig z (by omega) (by omega)⟩;omega
def G3n:Pb J8 Decl.Tl:=P1 J8 Decl.count Decl.Tl (λ_=>rfl) (λ_ _ _=>rfl) (λx k=>(Decl.H9 x k).1) (λx k E h=>Decl.V4 x k E h)
def Prog.V4(p:Prog)(h:p.count<=600):∀d,d∈p.decls->d.Tl:=by unfold Prog.count at h;have I:=Ex.Fu p.main 0;obtain⟨J,E⟩:=G3n p.decls (p.main.count 0);exact(E (by omega) (by omega)).2
structure Ty.Ni(B:Nat)(t:Ty):Prop where
 mg:t.Mg
 len:t.Ea<=B
structure A4.Ni(B:Nat)(s:A4):Prop where
 sm:s.Sm
 A1:s.A1.length<=2000/\∀f,f∈s.A1->f.bound.Ni B
 params:s.params.length<=2000/\∀f,f∈s.params->f.type.Ni B
 result:s.result.Ni B
 nm:s.name.length<=1000000
def QB{s:A4}(hs:s.Sm)(ht:s.Tl)(hr:s.right=true):s.Ni 120000:=by simp only[A4.right,Qn,Nf,Bh,Dz]at hr;exact⟨hs,⟨ht.A1.1,λf E=>⟨QA (hs.A1.2 f E).bound (hr.1.1.2 f E).2,ht.A1.2 f E⟩⟩,⟨ht.params.1,λf E=>⟨QA (hs.params.2 f E).type (hr.1.2 f E).2,ht.params.2 f E⟩⟩,⟨QA hs.result hr.2,ht.result⟩,Cy ht.name (by decide)⟩
def Ty.Ni.subst{B M:Nat}(L:4<=M){v:List A3}{J:List Ty}(I:∀u,u∈J->u.Ni M){t:Ty}(h:t.Ni B):(t.subst v J).Ni (B*M / 4):=by refine⟨Ty.Mg.subst (λu E=>(I u E).mg) h.mg,?_⟩;rw[Nat.le_div_iff_mul_le (by decide),qE];exact Cy (cp L (λu E=>(I u E).len) t) (Ih _ h.len)
def A4.Ni.subst{B M:Nat}(I:4<=M){v:List A3}{L:List Ty}(J:∀u,u∈L->u.Ni M)(has:∀u,u∈L->u.Sm){s:A4}(h:s.Ni B):(s.subst v L).Ni (B*M / 4):=by refine⟨h.sm.subst has,⟨by simp only[A4.subst,B7];exact h.A1.1,λf E=>?_⟩,⟨by simp only[A4.subst,B7];exact h.params.1,λf E=>?_⟩,h.result.subst I J,h.nm⟩;obtain⟨x,O,rfl⟩:=Ap.1 E;exact(h.A1.2 x O).subst I J;obtain⟨x,O,rfl⟩:=Ap.1 E;exact(h.params.2 x O).subst I J
def F8y(i:Nat)(h:i<=100000):(Vu i).Ni 12:=by refine⟨FY i h,?_⟩;have:=hQ i h;rw[yA];simp only[Vu,Ty.name,Ty.args,fA,En,Uv,Bg];omega
theorem A4.Ni.canon{B:Nat}{s:A4}(h:s.Ni B):s.canon.Ni (B*12 / 4):=by
 have O:=h.A1.1;have hs:∀u,u∈Dv s.A1.length->u.Ni 12:=λu L=>by obtain⟨i,I,rfl⟩:=Ap.1 L;exact F8y i (by have:=wJ.1 I;omega)
 refine⟨h.sm.canon,⟨by simp only[A4.canon,Yz];exact h.A1.1,λf E=>?_⟩,⟨by simp only[A4.canon,Yp];exact h.params.1,λf E=>?_⟩,h.result.subst (by decide) hs,h.nm⟩;obtain⟨i,x,J,I,rfl⟩:=mem_mapIdx E;exact(h.A1.2 x (Bs J)).subst (by decide) hs;obtain⟨i,x,J,I,rfl⟩:=mem_mapIdx E;exact(h.params.2 x (Bs J)).subst (by decide) hs
def xS{α:Type}(f:α->A3)(c:Nat):∀l:List α,(∀x,x∈l->(f x).length<=c)->(l.flatMap f).length<=l.length*c
 |[],_=>by simp
 |a::l,h=>by rw[Ww,B5,Bg,Nat.succ_mul];have:=xS f c l λx E=>h x (by simp[E]);have:=h a (by simp);omega
def A4.Ni.mono{B C:Nat}(h:B<=C){s:A4}(k:s.Ni B):s.Ni C :=⟨k.sm,⟨k.A1.1,λf E=>⟨(k.A1.2 f E).mg,Cy (k.A1.2 f E).len h⟩⟩,⟨k.params.1,λf E=>⟨(k.params.2 f E).mg,Cy (k.params.2 f E).len h⟩⟩,⟨k.result.mg,Cy k.result.len h⟩,k.nm⟩
def A4.Ni.JY{s:A4}(h:s.Ni 1200000000):(L7 s).length<=30000000000000:=by
 have I:=h.canon;have J:=I.A1;have hp:=I.params;have hr:=I.result;have W:=CA s.canon.result;have Z:=nI s.name;have e3:=h.nm;have V:(Jx s.canon.A1).length<=s.canon.A1.length*7200000002:=xS _ _ _ λf E=>by have:=(J.2 f E).len;have:=CA f.bound;rw[B5];simp only[Bg,Ck];omega
 have O:(Kd s.canon.params).length<=s.canon.params.length*7200000002:=xS _ _ _ λf E=>by have:=(hp.2 f E).len;have:=CA f.type;rw[B5];simp only[Bg,Ck];omega
 have L:s.canon.A1.length*7200000002<=2000*7200000002:=Ih _ J.1;have U:s.canon.params.length*7200000002<=2000*7200000002:=Ih _ hp.1;unfold L7;simp only[B5,Bg,Ck];have:=hr.len;omega
def A4.Ni.dum{s:A4}(h:s.Ni 1200000000):rS s:=by have I:=h.canon;have hr:=I.result;refine⟨h.sm,λf E=>⟨(I.A1.2 f E).mg,?_⟩,λf E=>⟨(I.params.2 f E).mg,?_⟩,⟨hr.mg,?_⟩,Cy h.JY (by decide)⟩;have:=(I.A1.2 f E).len;unfold QJ;omega;have:=(I.params.2 f E).len;unfold QJ;omega;have:=hr.len;unfold QJ;omega
theorem HA{p:Prog}(hs:p.Sm)(ht:∀d,d∈p.decls->d.Tl)(hr:p.right=true){d:Decl}(hd:d∈p.decls):(∀s,s∈d.sigs->s.Ni 120000)/\(d.kind=3->d.sig.Ni 120000):=by simp only[Prog.right,Bh,Dz]at hr;have h:=hr.1 d hd;simp only[Decl.right,Bh,Dz]at h;have I:=hs.decls.2 d hd;refine⟨λs E=>QB (I.sigs.2 s E) ((ht d hd).sigs s E) (h.2.2.2.1 s E),λL=>?_⟩;have J:=h.2.2.2.2.2;unfold Decl.Ub at J;rw[A7 L]at J;simp only[Bh]at J;exact QB I.sig (ht d hd).sig J.2.2.1
def DE{p:Prog}(hs:p.Sm)(ht:∀d,d∈p.decls->d.Tl)(hr:p.right=true){x:Ty}(W:x.Sm)(V:∀u,u∈x.args->u.Ni 12000):∀s,s∈C3 p [] x->s.Ni 1080000000:=by
 intro s E;have E:=(Zv _).mem_iff.1 E;have key:∀{v:List A3} {y:A4},y.Ni 120000->(y.canon.subst v x.args).Ni 1080000000:=λh=>A4.Ni.subst (B:=360000) (M:=12000) (by decide) V W.arg h.canon;have U:D3 [] x=none:=by simp[D3,Fk,E3]
 unfold D7 at E;rw[U]at E;simp only[jC,Uj,Iu,Gi]at E;split at E;rename_i O;unfold Hj at E;rw[A7 O]at E;obtain⟨d,hd,_⟩:=La (by decide) O;rw[hd,Dx]at E;unfold Xh Im at E;obtain⟨⟨y,i⟩,J,rfl⟩:=Ap.1 E;have L:=Kv (Xr (Kp.1 J).1);exact key ((HA hs ht hr (P3 hd)).1 y L);unfold Hf at E;obtain⟨⟨d,i⟩,J,rfl⟩:=Ap.1 E;have L:d∈p.decls:=Kv (Xr (Kp.1 J).1);have I:=(Kp.1 J).2;unfold Jm at I;simp only[Bh,Di]at I;exact key ((HA hs ht hr L).2 (by first|exact I.1.1.1|exact I.1.1|exact I.1))
def Ge(l:List Param):List Param:=l.mapIdx λi f=>⟨[112]++Lib.itoa (i:Nat),Ej f.type,0⟩
def D5(c:Be)(s:A4):A4:=⟨Gm c.name c.targs,[],Ge (s.params.map (Param.subst (Ad s.A1) c.targs)),Ej (s.result.subst (Ad s.A1) c.targs),0⟩
def XJ(l:List A4)(c:Be):Option A4:=if Fo l c.name<0 then none else
 if((l[(Fo l c.name).toNat]?).getD Jg).A1.length=c.targs.length then some (D5 c ((l[(Fo l c.name).toNat]?).getD Jg))else none
def Hy(p:Prog)(c:Be):Option A4:=XJ (C3 p [] c.on) c
def sgR:Option A4->SV
 |none=>.tuple [Db Jg,Ar false]
 |some s=>.tuple [Db s,Ar true]
def EU{l:List A4}{m:A3}(h:¬Fo l m<0):∃s,l[(Fo l m).toNat]?=some s/\s∈l:=by unfold Fo at*;rcases My (λs:A4=>decide (s.name=m)) l with⟨E,_⟩|⟨j,s,E,I,_⟩;rw[E]at h;exact absurd (by decide) h;rw[E,Ic];exact⟨s,I,Bs I⟩
structure Be.Ni(c:Be):Prop where
 sm:c.Sm
 on:c.on.Ni 12000
 targs:∀t,t∈c.targs->t.Ni 12000
 tl:fA c.targs<=12000000
theorem Ty.Ni.args{t:Ty}(h:t.Ni 12000):∀u,u∈t.args->u.Ni 12000:=λu E=>by
 have J:=h.len;have O:=XG E;rw[yA]at J;obtain⟨L,_⟩:=h;refine⟨?_,by omega⟩;cases L with
 |loc i p U=>simp[Ty.args]at E
 |R0 n a p _ _ _ I=>exact I u E
def xX{l:List Param}{j:Nat}{d:Param}(h:l[j]?=some d):Ge (l.take (j+1))=Ge (l.take j)++[⟨[112]++Lib.itoa (j:Nat),Ej d.type,0⟩]:=by
 have E:=(Az.1 h).1;have I:(l.take j).length=j:=by rw[Dh];omega
 rw[Kj E,(Az.1 h).2];unfold Ge;rw[List.mapIdx_append,I];simp
def DH(l:List Param):(Ge l).length=l.length:=by simp[Ge]
abbrev agS(n:A3)(r:A3)(x:SV):List SV:=[.d (.str n),.d .nil,x,.d (.str r),.d (.slice []),.d (.int .i64 0),.d (.int .i64 0)]
abbrev L1:=[0,1,2,3,4,5,6,7,8,9,10,11,33,64,900]
def qZ(p:Prog)(h:p.Sm)(ht:∀d,d∈p.decls->d.Tl)(hr:p.right=true)(c:Be)(J:c.Ni):Ab prog 61 [Cs p,caV c] (sgR (Hy p c)):=by
 have U:=DE h ht hr J.sm.on J.on.args;have hS:=AH p h [] (by simp) (by simp) c.on J.sm.on;have V:=W0 h [] c.on;have hF:=GL (C3 p [] c.on) c.name V;unfold Hy XJ;have E:=@EU (C3 p [] c.on) c.name;rw[show E3 (λs:A4=>decide (s.name=c.name)) (C3 p [] c.on)=Fo (C3 p [] c.on) c.name from rfl]at hF;generalize C3 p [] c.on=l at*;generalize Fo l c.name=n at*;by_cases O:n<0
 .rw[A7 O];refine cB func61 ?_;refine sR L1 ?_;refine sC hS L1 ?_;refine sC hF L1<|sK λK1 u1=>?_
  refine sG L1 [] 12 [] λK z=>?_;refine Bb O ?_;apply z;refine tI ?_;refine sR L1 ?_;exact aR
 rw[A5 O];obtain⟨s,hs,a7⟩:=E O;have ac:0<=n:=by omega
 have ab:n<l.length:=by have:=(Az.1 hs).1;omega
 rw[hs,Dx];have I:=U s a7;by_cases hl:s.A1.length=c.targs.length;rotate_left
 .have L:¬(s.A1.length:Int)=(c.targs.length:Int):=by omega
  rw[A5 hl];refine cB func61 ?_;refine sR L1 ?_;refine sC hS L1 ?_;refine sC hF L1<|sK λK1 u1=>?_
  refine sG L1 [] 12 [] λK z=>?_;refine Bb O ?_;refine C0 L (Dg hs) ?_;apply z;refine tI ?_;refine sR L1 ?_;exact aR
 rw[A7 hl];have L:(s.A1.length:Int)=(c.targs.length:Int):=by omega
 have Z:=Ss s.A1 I.sm.A1.1;rw[show s.A1.map (·.name)=Ad s.A1 from rfl]at Z;have hM:=eU c.name J.sm.name c.targs J.sm.targs.1 (λt h=>(J.targs t h).mg) (by have:=J.tl;omega);have a3:=Qw (Ad s.A1) c.targs J.sm.targs.2 s.result I.sm.result;have hq:=A4.Ni.subst (v:=Ad s.A1) (by decide:4<=12000) J.targs J.sm.targs.2 I;have hP:=KM (s.result.subst (Ad s.A1) c.targs) hq.result.mg (Cy hq.result.len (by decide));have aa:=I.params.1;have a8:=I.params.2;have a6:=I.sm.params.2;have e1:D5 c s=⟨Gm c.name c.targs,[],Ge (s.params.map (Param.subst (Ad s.A1) c.targs)),Ej (s.result.subst (Ad s.A1) c.targs),0⟩:=rfl;rw[e1];generalize s.result.subst (Ad s.A1) c.targs=rt at*;generalize Gm c.name c.targs=nm at*;generalize a':Ad s.A1=nn at*;refine cB func61 ?_;refine sR L1 ?_;refine sC hS L1 ?_;refine sC hF L1<|sK λK1 u1=>?_
 refine sG L1 [] 12 [] λK z=>?_;refine Bb O ?_;refine C0 L (Dg hs) ?_;apply z;refine kI u1 ?_;refine sV L1 λK z=>?_;refine ci (Dg hs) ?_;refine cc Z ?_;apply z;refine sG L1 [] 17 gg λK z=>?_;refine ev ?_;refine cc hM ?_;refine ci (Dg hs) ?_;refine cc a3 ?_;refine cc hP ?_;apply z;refine rA 900 5 9 2 rfl rfl (by decide)<|kR L1 λK1 u1=>?_;refine bA (A0.ii s.params (X:=Unit) (λj _=>[(3,.box 3 0),(4,.box 4 0),(6,.d (.slice (B4 l))),(7,A6 n),(8,Cm nn),(9,.box 9 0),(10,A6 j)]) (λj _=>[(3,.cells (caS c)),(4,.cells [.d (.str []),.d .nil,.d .nil,.d (.str []),.d .nil,.d (.int .i64 0),.d (.int .i64 0)]),(9,.cells (agS nm rt.mg (.acc 900))),(900,.rows 5 (Aw (Ge ((s.params.take j).map (Param.subst nn c.targs)))))]) (λ_ _=>True) () trivial sS (by simp[ble,A9,Aw,Ge];exact⟨rfl,rfl,rfl⟩) ?_ ?_)
 rotate_left
 .intro j _ d hd E dp tk a2 _;have hj:=(Az.1 hd).1;have hit:=fP j (by unfold sm;omega);have a9:=Lib.itoa_length_le j (by omega) (by omega);rw[<-Uv]at hit;have a0:=Ty.Ni.subst (v:=nn) (by decide:4<=12000) J.targs (a8 d E);have a1:=Qw nn c.targs J.sm.targs.2 d.type (a6 d E).type;have a5:=KM (d.type.subst nn c.targs) a0.mg (by have:=a0.len;omega);have a4:(s.params.map (Param.subst nn c.targs))[j]?=some (Param.subst nn c.targs d):=by rw[Df,hd];rfl
  have e2:Aw (Ge ((s.params.take (j+1)).map (Param.subst nn c.targs)))=Aw (Ge ((s.params.take j).map (Param.subst nn c.targs)))++[G9 ⟨[112]++Lib.itoa (j:Nat),Ej (d.type.subst nn c.targs),0⟩]:=by rw[List.map_take,xX a4,List.map_take];simp[Aw,Param.subst]
  have e3:(Aw (Ge ((s.params.take j).map (Param.subst nn c.targs)))).length=j:=by rw[rK,DH,B7,Dh];omega
  rw[e2];generalize Aw (Ge ((s.params.take j).map (Param.subst nn c.targs)))=PR at*;generalize d.type.subst nn c.targs=dt at*;generalize Lib.itoa (j:Nat)=ds at*;refine sK λW u2=>?_;refine sV L1 λK z=>?_;refine C0 a2 (Dg hs) ?_;apply z;refine gI u2 ?_;refine sK λW u2=>bA ?_;refine sG L1 [] 14 gi λK z=>?_;refine ev ?_;refine ci (Dg hs) ?_;refine ci (Dt hd) ?_;refine cc a1 ?_;apply z;(refine lG L1 [] 9 [] λK z=>?_;refine ev ?_;refine cc hit ?_;refine⟨by(try simp only[B5,Bg,Ck]);unfold lim;omega,?_⟩;(try refine Bb e3 ?_);refine E0 e3 a5 ?_;refine⟨by simp,by(try simp only[e3]);unfold lim;omega,?_⟩;(try refine Bb e3 ?_);apply z;try simp only[Aa,Af]);apply u2;(refine lV L1 λK z=>?_;refine cl ?_;apply z;try simp only[Aa,]);exact⟨(),trivial,sS,by simp[ble,A9,G9]⟩
 intro _ _;rw[Ca];refine sK λW u2=>?_;refine sV L1 λK z=>?_;refine C0 B1 (Dg hs) ?_;apply z;refine sE ?_;apply u1;refine sR L1 ?_;exact aR
end Go.iA
