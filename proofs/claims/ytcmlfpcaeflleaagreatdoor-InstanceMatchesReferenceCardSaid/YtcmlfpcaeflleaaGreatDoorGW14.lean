/- the signatures that right programs of few parts have: names that mangle takes, and how long they get; the signature for a call as a plain function -/
import Derived.Test.YtcmlfpcaeflleaaGreatDoorGW08
import Derived.Test.YtcmlfpcaeflleaaGreatDoorGO01
set_option linter.all false
set_option maxHeartbeats 4000000
set_option maxRecDepth 100000
namespace Go.Abs
open Go Go.Proofs Tryz
def D7f{v:List A3}{E:List Ty}{M:Nat}(V:4<=M)(U:∀u,u∈E->u.Cb<=M):∀t:Ty,4*(t.subst v E).Cb<=t.Cb*M:=by
 intro t
 induction t using Ty.induct with
 |h t Z =>
 have I:4<=t.Cb:=by rw[Ty.Mw];omega
 rw[Xj];split
 .rename_i O;have L:=U _ (C4k O.2.1 O.2.2);generalize(E[(Dc t.name v 0).toNat]?).getD default=u at L;obtain⟨n,a,q⟩:=u;have e:(Ty.mk (Ty.mk n a q).name (Ty.mk n a q).args t.pos).Cb=(Ty.mk n a q).Cb:=by rw[Ty.Mw,Ty.Mw];rfl
  rw[e];exact Nat.mul_le_mul I L
 .have W:∀l:List Ty,(∀t,t∈l->4*(t.subst v E).Cb<=t.Cb*M)->4*Ty.C4 (l.map (Ty.subst v E))<=Ty.C4 l*M:=by
   intro l
   induction l with
   |nil=>intro _;simp[Ty.C4]
   |cons x l J =>intro h;have h1:=h x (by simp);have h2:=J λt ht=>h t (by simp[ht]);rw[Ck,Ty.C4,Ty.C4,Gy];omega
  have h3:=W t.args Z;rw[Ty.Mw,Ty.Mw t];show 4*(t.name.length+4+Ty.C4 (t.args.map (Ty.subst v E)))<=_;rw[Gy];have:4*(t.name.length+4)<=(t.name.length+4)*M:=by rw[Uu 4];exact An6 _ V
  omega
structure A5.Tl(s:A5):Prop where
 A1:s.A1.length<=2000/\∀f,f∈s.A1->f.bound.Cb<=120000
 params:s.params.length<=2000/\∀f,f∈s.params->f.type.Cb<=120000
 result:s.result.Cb<=120000
structure Decl.Tl(d:Decl):Prop where
 fields:∀f,f∈d.fields->f.type.Cb<=120000
 sigs:∀s,s∈d.sigs->s.Tl
 sig:d.sig.Tl
def Ty.U9{t:Ty}{k:Int}(E:0<=k)(h:t.count k<=2000):t.Cb<=120000:=by have:=Ty.A2x t k h;omega
def C0c:P2 C8 (λf=>f.bound.Cb<=120000):=N8 C8 (λf n=>f.bound.count (n+1+((f.name.length / 50:Nat):Int))) (λf=>f.bound.Cb<=120000) (λ_=>rfl) (λ_ _ _=>rfl)
 (λx k=>by have:=Ty.F9 x.bound (k+1+((x.name.length / 50:Nat):Int));omega)
 (λx k E h=>Ty.U9 (by omega) h)
def C0x:P2 D6 (λf=>f.type.Cb<=120000):=N8 D6 (λf n=>f.type.count (n+1+((f.name.length / 50:Nat):Int))) (λf=>f.type.Cb<=120000) (λ_=>rfl) (λ_ _ _=>rfl)
 (λx k=>by have:=Ty.F9 x.type (k+1+((x.name.length / 50:Nat):Int));omega)
 (λx k E h=>Ty.U9 (by omega) h)
def A5.U9(s:A5)(n:Int)(J:0<=n)(h:s.count n<=2000):s.Tl:=by unfold A5.count at h;obtain⟨V,E⟩:=C0c s.A1 (n+((s.name.length / 50:Nat):Int));obtain⟨U,I⟩:=C0x s.params (C8 s.A1 (n+((s.name.length / 50:Nat):Int)));have O:=Ty.F9 s.result (D6 s.params (C8 s.A1 (n+((s.name.length / 50:Nat):Int))));have L:=(E (by omega) (by omega)).1;have M:=(I (by omega) (by omega)).1;exact⟨⟨by omega,(E (by omega) (by omega)).2⟩,⟨by omega,(I (by omega) (by omega)).2⟩,Ty.U9 (by omega) h⟩
def E9z:P2 Ec A5.Tl:=N8 Ec A5.count A5.Tl (λ_=>rfl) (λ_ _ _=>rfl) (λx k=>(A5.Gi x k).1) (λx k E h=>A5.U9 x k E h)
def Decl.U9(d:Decl)(n:Int)(J:0<=n)(h:d.count n<=2000):d.Tl:=by
 unfold Decl.count at h;generalize L:n+1+((d.name.length / 50:Nat):Int)+((d.recv.length / 50:Nat):Int)=m at h;obtain⟨Z,V⟩:=C0c d.A1 m;obtain⟨W,I⟩:=C0x d.fields (C8 d.A1 m);obtain⟨O,E⟩:=E9z d.sigs (D6 d.fields (C8 d.A1 m));obtain⟨e1,U⟩:=A2e d.vars (Ec d.sigs (D6 d.fields (C8 d.A1 m)));generalize hz:Jc d.vars (Ec d.sigs (D6 d.fields (C8 d.A1 m)))=z at*;unfold Decl.Ta at h;obtain⟨f1,_⟩:=A5.Gi d.sig z;have M:=Ex.F9 d.body (d.sig.count z);split at h
 .exact⟨(I (by omega) (by omega)).2,(E (by omega) (by omega)).2,A5.U9 d.sig z (by omega) (by omega)⟩
 .omega
def G6a:P2 Im Decl.Tl:=N8 Im Decl.count Decl.Tl (λ_=>rfl) (λ_ _ _=>rfl) (λx k=>(Decl.Gi x k).1) (λx k E h=>Decl.U9 x k E h)
def Prog.U9(p:Prog)(h:p.count<=600):∀d,d∈p.decls->d.Tl:=by unfold Prog.count at h;have I:=Ex.F9 p.main 0;obtain⟨J,E⟩:=G6a p.decls (p.main.count 0);exact(E (by omega) (by omega)).2
structure Ty.Ni(B:Nat)(t:Ty):Prop where
 mg:t.Mg
 len:t.Cb<=B
structure A5.Ni(B:Nat)(s:A5):Prop where
 sm:s.Sm
 A1:s.A1.length<=2000/\∀f,f∈s.A1->f.bound.Ni B
 params:s.params.length<=2000/\∀f,f∈s.params->f.type.Ni B
 result:s.result.Ni B
def A5.D7m{s:A5}(hs:s.Sm)(ht:s.Tl)(hr:s.right=true):s.Ni 120000:=by
 simp only[A5.right,Si,Vj,Bc,Dr]at hr;exact⟨hs,⟨ht.A1.1,λf E=>⟨Ty.B0h (hs.A1.2 f E).bound (hr.1.1.2 f E).2,ht.A1.2 f E⟩⟩,⟨ht.params.1,λf E=>⟨Ty.B0h (hs.params.2 f E).type (hr.1.2 f E).2,ht.params.2 f E⟩⟩,
  ⟨Ty.B0h hs.result hr.2,ht.result⟩⟩
def Ty.Ni.subst{B M:Nat}(L:4<=M){v:List A3}{J:List Ty}(I:∀u,u∈J->u.Ni M){t:Ty}(h:t.Ni B):(t.subst v J).Ni (B*M / 4):=by refine⟨Ty.Mg.subst (λu E=>(I u E).mg) h.mg,?_⟩;rw[As8 (by decide),Uu];exact D3 (D7f L (λu E=>(I u E).len) t) (I9 _ h.len)
def A5.Ni.subst{B M:Nat}(I:4<=M){v:List A3}{L:List Ty}(E:∀u,u∈L->u.Ni M)(has:∀u,u∈L->u.Sm){s:A5}(h:s.Ni B):(s.subst v L).Ni (B*M / 4):=by
 refine⟨h.sm.subst has,⟨by simp only[A5.subst,Bn];exact h.A1.1,λf J=>?_⟩,⟨by simp only[A5.subst,Bn];exact h.params.1,λf J=>?_⟩,h.result.subst I E⟩
 .obtain⟨x,O,rfl⟩:=B1.1 J;exact(h.A1.2 x O).subst I E
 .obtain⟨x,O,rfl⟩:=B1.1 J;exact(h.params.2 x O).subst I E
def F2s(i:Nat)(h:i<=100000):(Ve i).Ni 12:=by refine⟨D9y i h,?_⟩;have:=G2f i h;rw[Ty.Mw];simp only[Ve,Ty.name,Ty.args,Ty.C4,G0,C8d,C6];omega
def A5.Ni.canon{B:Nat}{s:A5}(h:s.Ni B):s.canon.Ni (B*12 / 4):=by
 have M:=h.A1.1;have hs:∀u,u∈Dg s.A1.length->u.Ni 12:=λu L=>by obtain⟨i,I,rfl⟩:=B1.1 L;exact F2s i (by have:=Aq9.1 I;omega)
 refine⟨h.sm.canon,⟨by simp only[A5.canon,A1t];exact h.A1.1,λf E=>?_⟩,⟨by simp only[A5.canon,A4y];exact h.params.1,λf E=>?_⟩,h.result.subst (by decide) hs⟩
 .obtain⟨i,x,J,I,rfl⟩:=mem_mapIdx E;exact(h.A1.2 x (Br J)).subst (by decide) hs
 .obtain⟨i,x,J,I,rfl⟩:=mem_mapIdx E;exact(h.params.2 x (Br J)).subst (by decide) hs
def Prog.D0h{p:Prog}(hs:p.Sm)(ht:∀d,d∈p.decls->d.Tl)(hr:p.right=true){d:Decl}(J:d∈p.decls):(∀s,s∈d.sigs->s.Ni 120000)/\(d.kind=3->d.sig.Ni 120000):=by simp only[Prog.right,Bc,Dr]at hr;have h:=hr.1 d J;simp only[Decl.right,Bc,Dr]at h;have I:=hs.decls.2 d J;refine⟨λs E=>A5.D7m (I.sigs.2 s E) ((ht d J).sigs s E) (h.2.2.2.1 s E),λM=>?_⟩;have L:=h.2.2.2.2.2;unfold Decl.A2y at L;rw[A9 M]at L;simp only[Bc]at L;exact A5.D7m I.sig (ht d J).sig L.2.2.1
def D8m(p:Prog)(h:p.Sm)(env:List Am)(I:env.length<=sm)(L:∀f,f∈env->f.Sm)(x:Ty)(M:x.Sm)(E:A3) :
  Ac prog 146 [.Ah (Ep p) 0,.d (.slice (Ar env)),B6 x,D9 E] (Yh (D8 p env x) E):=by
 have hs:=B8j p h env I L x M;have hp:=C8x (D8 p env x) (A4h h env x) E;unfold Yh at*;by_cases J:Gj (D8 p env x) E<0
 .rw[A9 J]at hp |-;refine cB func146 ?_;refine sR [0,1,2,3,6,8,9] ?_
  (refine sV [0,1,2,3,6,8,9] λK z=>?_;refine cc hs ?_;refine cc hp ?_;apply z;clear z K)
  exact aR
 .rw[A6 J]at hp |-;generalize((D8 p env x)[(Gj (D8 p env x) E).toNat]?).getD Zf=s at*;refine cB func146 ?_;refine sR [0,1,2,3,6,8,9] ?_
  (refine sV [0,1,2,3,6,8,9] λK z=>?_;refine cc hs ?_;refine cc hp ?_;apply z;clear z K)
  exact aR
def E8q(s:A5)(h:s.Sm)(args:List Ty)(O:s.A1.length=args.length)(L:∀u,u∈args->u.Sm) :
  Ac prog 147 [Ea s,Cd args] (.tuple [Ea (s.subst (Af s.A1) args),Ay true]):=by
 have E:=A4d s.A1 h.A1.1;have J:=B9m (Af s.A1) args L s h;rw[show s.A1.map (·.name)=Af s.A1 from rfl]at E;have I:(s.A1.length:Int)=(args.length:Int):=by omega
 generalize s.subst (Af s.A1) args=s' at*;generalize Af s.A1=nn at*;refine cB func147 ?_;refine sR [0,1,2,4,5,11] ?_;refine Ai I [0,1,2,4,5,11] λM u1=>?_;refine kI u1 ?_;clear u1 M
 (refine sG [0,1,2,4,5,11] [] 5 [] λK z=>?_;refine ev ?_;refine cc E ?_;refine cc J ?_;apply z;clear z K)
 exact aR
def G4x(s:A5)(args:List Ty)(J:s.A1.length≠args.length):Ac prog 147 [Ea s,Cd args] (.tuple [Ea Zf,Ay false]):=by
 have E:¬(s.A1.length:Int)=(args.length:Int):=by omega
 refine cB func147 ?_;refine sR [0,1,2,4,5,11] ?_;refine Ai E [0,1,2,4,5,11] λI u1=>?_;refine tI ?_;refine sR [0,1,2,4,5,11] ?_;exact aR
structure Ad.Ni(c:Ad):Prop where
 sm:c.Sm
 on:c.on.Ni 12000
 targs:∀t,t∈c.targs->t.Ni 12000
 tl:Ty.C4 c.targs<=12000000
def Ty.Ni.args{t:Ty}(h:t.Ni 12000):∀u,u∈t.args->u.Ni 12000:=λu E=>by
 have J:=h.len;have M:=A5u E;rw[Ty.Mw]at J;obtain⟨L,_⟩:=h;refine⟨?_,by omega⟩;cases L with
 |loc i p O=>simp[Ty.args]at E
 |Ys n a p _ _ _ I=>exact I u E
end Go.Abs
