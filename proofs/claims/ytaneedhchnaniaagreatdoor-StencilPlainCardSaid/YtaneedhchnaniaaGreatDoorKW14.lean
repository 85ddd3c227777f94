/- the signatures that right programs of few parts have: names that mangle takes, and how long they get; the signature for a call as a plain function -/
import Derived.Test.YtaneedhchnaniaaGreatDoorKW08
import Derived.Test.YtaneedhchnaniaaGreatDoorKU01
namespace Go.Abs
set_option linter.all false
open Go Go.Proofs Tryz
set_option maxRecDepth 100000
set_option maxHeartbeats 4000000
theorem E1y {v:List A3} {E:List Ty} {M:Nat} (W:4≤M)(U:∀u,u∈E→u.Dr≤M):∀t:Ty,4*(t.subst v E).Dr≤t.Dr*M:=by
 intro t
 induction t using Ty.induct with
 |h t V =>
 have J:4≤t.Dr:=by rw [Ty.U8];omega
 rw [Uq];split
 ·rename_i O;have L:=U _ (C3s O.2.1 O.2.2);generalize (E[(Cy t.name v 0).toNat]?).getD default=u at L;obtain⟨n,a,q⟩:=u;have e:(Ty.mk (Ty.mk n a q).name (Ty.mk n a q).args t.pos).Dr=(Ty.mk n a q).Dr:=by rw [Ty.U8,Ty.U8];rfl
  rw [e];exact Nat.mul_le_mul J L
 ·have R:∀l:List Ty,(∀t,t∈l→4*(t.subst v E).Dr≤t.Dr*M)→4*Ty.C9 (l.map (Ty.subst v E))≤Ty.C9 l*M:=by
   intro l
   induction l with
   |nil=>intro _;simp [Ty.C9]
   |cons x l I =>intro h;have h1:=h x (by simp);have Z:=I fun t ht=>h t (by simp [ht]);rw [Cz,Ty.C9,Ty.C9,Ei];omega
  have h3:=R t.args V;rw [Ty.U8,Ty.U8 t];show 4*(t.name.length+4+Ty.C9 (t.args.map (Ty.subst v E)))≤_;rw [Ei];have:4*(t.name.length+4)≤(t.name.length+4)*M:=by rw [Tf 4];exact Am5 _ W
  omega
structure A5.Tl (s:A5):Prop where
 A1:s.A1.length≤2000∧∀f,f∈s.A1→f.bound.Dr≤120000
 params:s.params.length≤2000∧∀f,f∈s.params→f.type.Dr≤120000
 result:s.result.Dr≤120000
structure Decl.Tl (d:Decl):Prop where
 fields:∀f,f∈d.fields→f.type.Dr≤120000
 sigs:∀s,s∈d.sigs→s.Tl
 sig:d.sig.Tl
theorem Ty.R5 {t:Ty} {k:Int} (E:0≤k)(h:t.count k≤2000):t.Dr≤120000:=by have:=Ty.A0p t k h;omega
theorem C0c:N3 C7 (fun f=>f.bound.Dr≤120000):=Ly C7 (fun f n=>f.bound.count (n+1+((f.name.length / 50:Nat):Int))) (fun f=>f.bound.Dr≤120000) (fun _=>rfl) (fun _ _ _=>rfl)
 (fun x k=>by have:=Ty.F4 x.bound (k+1+((x.name.length / 50:Nat):Int));omega)
 (fun x k E h=>Ty.R5 (by omega) h)
theorem C3j:N3 D5 (fun f=>f.type.Dr≤120000):=Ly D5 (fun f n=>f.type.count (n+1+((f.name.length / 50:Nat):Int))) (fun f=>f.type.Dr≤120000) (fun _=>rfl) (fun _ _ _=>rfl)
 (fun x k=>by have:=Ty.F4 x.type (k+1+((x.name.length / 50:Nat):Int));omega)
 (fun x k E h=>Ty.R5 (by omega) h)
theorem A5.R5 (s:A5)(n:Int)(O:0≤n)(h:s.count n≤2000):s.Tl:=by unfold A5.count at h;obtain⟨R,E⟩:=C0c s.A1 (n+((s.name.length / 50:Nat):Int));obtain⟨J,I⟩:=C3j s.params (C7 s.A1 (n+((s.name.length / 50:Nat):Int)));have V:=Ty.F4 s.result (D5 s.params (C7 s.A1 (n+((s.name.length / 50:Nat):Int))));have U:=(E (by omega) (by omega)).1;have L:=(I (by omega) (by omega)).1;exact⟨⟨by omega,(E (by omega) (by omega)).2⟩,⟨by omega,(I (by omega) (by omega)).2⟩,Ty.R5 (by omega) h⟩
theorem D7z:N3 Eh A5.Tl:=Ly Eh A5.count A5.Tl (fun _=>rfl) (fun _ _ _=>rfl) (fun x k=>(A5.Gv x k).1) (fun x k E h=>A5.R5 x k E h)
theorem Decl.R5 (d:Decl)(n:Int)(R:0≤n)(h:d.count n≤2000):d.Tl:=by
 unfold Decl.count at h;generalize U:n+1+((d.name.length / 50:Nat):Int)+((d.recv.length / 50:Nat):Int)=m at h;obtain⟨W,V⟩:=C0c d.A1 m;obtain⟨J,I⟩:=C3j d.fields (C7 d.A1 m);obtain⟨c1,E⟩:=D7z d.sigs (D5 d.fields (C7 d.A1 m));obtain⟨L,O⟩:=A2t d.vars (Eh d.sigs (D5 d.fields (C7 d.A1 m)));generalize hz:Ii d.vars (Eh d.sigs (D5 d.fields (C7 d.A1 m)))=z at *;unfold Decl.Ry at h;obtain⟨f1,_⟩:=A5.Gv d.sig z;have Z:=Ex.F4 d.body (d.sig.count z);split at h
 ·exact⟨(I (by omega) (by omega)).2,(E (by omega) (by omega)).2,A5.R5 d.sig z (by omega) (by omega)⟩
 ·omega
theorem G2u:N3 Ik Decl.Tl:=Ly Ik Decl.count Decl.Tl (fun _=>rfl) (fun _ _ _=>rfl) (fun x k=>(Decl.Gv x k).1) (fun x k E h=>Decl.R5 x k E h)
theorem Prog.R5 (p:Prog)(h:p.count≤600):∀d,d∈p.decls→d.Tl:=by unfold Prog.count at h;have J:=Ex.F4 p.main 0;obtain⟨I,E⟩:=G2u p.decls (p.main.count 0);exact (E (by omega) (by omega)).2
structure Ty.Ni (B:Nat)(t:Ty):Prop where
 mg:t.Mg
 len:t.Dr≤B
structure A5.Ni (B:Nat)(s:A5):Prop where
 sm:s.Sm
 A1:s.A1.length≤2000∧∀f,f∈s.A1→f.bound.Ni B
 params:s.params.length≤2000∧∀f,f∈s.params→f.type.Ni B
 result:s.result.Ni B
theorem A5.E1o {s:A5} (hs:s.Sm)(ht:s.Tl)(hr:s.right=true):s.Ni 120000:=by
 simp only [A5.right,Pv,Lx,B1,Cf] at hr;exact⟨hs,⟨ht.A1.1,fun f E=>⟨Ty.A3w (hs.A1.2 f E).bound (hr.1.1.2 f E).2,ht.A1.2 f E⟩⟩,⟨ht.params.1,fun f E=>⟨Ty.A3w (hs.params.2 f E).type (hr.1.2 f E).2,ht.params.2 f E⟩⟩,
  ⟨Ty.A3w hs.result hr.2,ht.result⟩⟩
theorem Ty.Ni.subst {B M:Nat} (L:4≤M) {v:List A3} {J:List Ty} (I:∀u,u∈J→u.Ni M) {t:Ty} (h:t.Ni B):(t.subst v J).Ni (B*M / 4):=by refine⟨Ty.Mg.subst (fun u E=>(I u E).mg) h.mg,?_⟩;rw [At8 (by decide),Tf];exact Dk (E1y L (fun u E=>(I u E).len) t) (H4 _ h.len)
theorem A5.Ni.subst {B M:Nat} (L:4≤M) {v:List A3} {J:List Ty} (E:∀u,u∈J→u.Ni M)(has:∀u,u∈J→u.Sm) {s:A5} (h:s.Ni B):(s.subst v J).Ni (B*M / 4):=by
 refine⟨h.sm.subst has,⟨by simp only [A5.subst,B6];exact h.A1.1,fun f O=>?_⟩,⟨by simp only [A5.subst,B6];exact h.params.1,fun f O=>?_⟩,h.result.subst L E⟩
 ·obtain⟨x,I,rfl⟩:=Ax.1 O;exact (h.A1.2 x I).subst L E
 ·obtain⟨x,I,rfl⟩:=Ax.1 O;exact (h.params.2 x I).subst L E
theorem F4w (i:Nat)(h:i≤100000):(Tz i).Ni 12:=by refine⟨C9x i h,?_⟩;have:=C8z i h;rw [Ty.U8];simp only [Tz,Ty.name,Ty.args,Ty.C9,Ec,A3j,Bg];omega
theorem A5.Ni.canon {B:Nat} {s:A5} (h:s.Ni B):s.canon.Ni (B*12 / 4):=by
 have O:=h.A1.1;have hs:∀u,u∈Da s.A1.length→u.Ni 12:=fun u L=>by obtain⟨i,I,rfl⟩:=Ax.1 L;exact F4w i (by have:=Xs.1 I;omega)
 refine⟨h.sm.canon,⟨by simp only [A5.canon,Xr];exact h.A1.1,fun f J=>?_⟩,⟨by simp only [A5.canon,Xb];exact h.params.1,fun f J=>?_⟩,h.result.subst (by decide) hs⟩
 ·obtain⟨i,x,E,I,rfl⟩:=mem_mapIdx J;exact (h.A1.2 x (Bx E)).subst (by decide) hs
 ·obtain⟨i,x,E,I,rfl⟩:=mem_mapIdx J;exact (h.params.2 x (Bx E)).subst (by decide) hs
theorem C2f {α:Type} (f:α→A3)(c:Nat):∀l:List α,(∀x,x∈l→(f x).length≤c)→(l.flatMap f).length≤l.length*c
 |[],_=>by simp
 |a::l,h=>by rw [Ar4,B3,Bg,Nat.succ_mul];have:=C2f f c l fun x E=>h x (by simp [E]);have:=h a (by simp);omega
theorem A5.Ni.dum {s:A5} (h:s.Ni 1200000000):C1a s:=by
 have L:=h.canon;have J:=L.A1;have I:=L.params;have hr:=L.result;have W:=Ty.A7c s.canon.result;have Z:=B8v s.name;have e3:s.name.length≤1000000:=h.sm.name;have O:(Me s.canon.A1).length≤s.canon.A1.length*7200000002:=C2f _ _ _ fun f E=>by have:=(J.2 f E).len;have:=Ty.A7c f.bound;rw [B3];simp only [Bg,Ch];omega
 have R:(Mk s.canon.params).length≤s.canon.params.length*7200000002:=C2f _ _ _ fun f E=>by have:=(I.2 f E).len;have:=Ty.A7c f.type;rw [B3];simp only [Bg,Ch];omega
 have U:s.canon.A1.length*7200000002≤2000*7200000002:=H4 _ J.1;have V:s.canon.params.length*7200000002≤2000*7200000002:=H4 _ I.1;refine⟨h.sm,fun f E=>⟨(J.2 f E).mg,?_⟩,fun f E=>⟨(I.2 f E).mg,?_⟩,⟨hr.mg,?_⟩,?_⟩
 ·have:=(J.2 f E).len;unfold A7e;omega
 ·have:=(I.2 f E).len;unfold A7e;omega
 ·have:=hr.len;unfold A7e;omega
 ·unfold Wp;simp only [B3,Bg,Ch];have:=hr.len;omega
theorem Prog.A9o {p:Prog} (hs:p.Sm)(ht:∀d,d∈p.decls→d.Tl)(hr:p.right=true) {d:Decl} (hd:d∈p.decls):(∀s,s∈d.sigs→s.Ni 120000)∧(d.kind=3→d.sig.Ni 120000):=by simp only [Prog.right,B1,Cf] at hr;have h:=hr.1 d hd;simp only [Decl.right,B1,Cf] at h;have I:=hs.decls.2 d hd;refine⟨fun s E=>A5.E1o (I.sigs.2 s E) ((ht d hd).sigs s E) (h.2.2.2.1 s E),fun L=>?_⟩;have J:=h.2.2.2.2.2;unfold Decl.Sv at J;rw [A8 L] at J;simp only [B1] at J;exact A5.E1o I.sig (ht d hd).sig J.2.2.1
theorem A6e {p:Prog} (hs:p.Sm)(ht:∀d,d∈p.decls→d.Tl)(hr:p.right=true) {x:Ty} (R:x.Sm)(U:∀u,u∈x.args→u.Ni 12000):∀s,s∈Cb p [] x→s.Ni 1080000000:=by
 intro s E;have E:=(Yv _).mem_iff.1 E;have key:∀{v:List A3} {y:A5},y.Ni 120000→(y.canon.subst v x.args).Ni 1080000000:=fun h=>A5.Ni.subst (B:=360000) (M:=12000) (by decide) U R.arg h.canon;have V:Ck [] x=none:=by simp [Ck,Ev,Dy]
 unfold De at E;rw [V] at E;simp only [Mj,L7,Hh,Et] at E;split at E
 ·rename_i O;unfold Gg at E;rw [A8 O] at E;obtain⟨d,hd,_⟩:=Lo (by decide) O;rw [hd,Dc] at E;unfold Yx I7 at E;obtain⟨⟨y,i⟩,J,rfl⟩:=Ax.1 E;have L:=Iq (V5 (L8.1 J).1);exact key ((Prog.A9o hs ht hr (Nh hd)).1 y L)
 ·unfold Gk at E;obtain⟨⟨d,i⟩,J,rfl⟩:=Ax.1 E;have L:d∈p.decls:=Iq (V5 (L8.1 J).1);have I:=(L8.1 J).2;unfold Io at I;simp only [B1,D8] at I;exact key ((Prog.A9o hs ht hr L).2 (by first| exact I.1.1.1| exact I.1.1| exact I.1))
def Hg (l:List Param):List Param:=l.mapIdx fun i f=>⟨[112]++Lib.itoa (i:Nat),R7 f.type,0⟩
def Md (c:Au)(s:A5):A5:=⟨G3 c.name c.targs,[],Hg (s.params.map (Param.subst (Ad s.A1) c.targs)),R7 (s.result.subst (Ad s.A1) c.targs),0⟩
def B0y (l:List A5)(c:Au):Option A5:=if F8 l c.name < 0 then none else
 if ((l[(F8 l c.name).toNat]?).getD Kd).A1.length=c.targs.length then some (Md c ((l[(F8 l c.name).toNat]?).getD Kd)) else none
def Fk (p:Prog)(c:Au):Option A5:=B0y (Cb p [] c.on) c
def Xu:Option A5→SV
 |none=>.tuple [Cx Kd,B0 false]
 |some s=>.tuple [Cx s,B0 true]
theorem C2b {l:List A5} {m:A3} (h:¬F8 l m < 0):∃s,l[(F8 l m).toNat]? = some s∧s∈l:=by
 unfold F8 at *;rcases N1 (fun s:A5=>decide (s.name=m)) l with ⟨E,_⟩| ⟨j,s,E,I,_⟩
 ·rw [E] at h;exact absurd (by decide) h
 ·rw [E,Gr];exact⟨s,I,Bx I⟩
theorem E0i (p:Prog)(h:p.Sm)(env:List Ak)(J:env.length≤sm)(R:∀f,f∈env→f.Sm)(x:Ty)(O:x.Sm)(E:A3) :
  Ac prog 135 [.Ag (Fu p) 0,.d (.slice (Az env)),Be x,C8 E] (A4c (Cb p env x) E):=by
 have hs:=A8u p h env J R x O;have I:=E0v (Cb p env x) (W3 h env x) E;unfold A4c at *;by_cases L:F8 (Cb p env x) E < 0
 ·rw [A8 L] at I ⊢;refine cB func135 ?_;refine sR [0,1,2,3,6,8,9] ?_
  (refine sV [0,1,2,3,6,8,9] fun K z=>?_;refine cc hs ?_;refine cc I ?_;apply z;clear z K)
  exact aR
 ·rw [A6 L] at I ⊢;generalize ((Cb p env x)[(F8 (Cb p env x) E).toNat]?).getD Kd=s at *;refine cB func135 ?_;refine sR [0,1,2,3,6,8,9] ?_
  (refine sV [0,1,2,3,6,8,9] fun K z=>?_;refine cc hs ?_;refine cc I ?_;apply z;clear z K)
  exact aR
theorem E1q (s:A5)(h:s.Sm)(args:List Ty)(R:s.A1.length=args.length)(L:∀u,u∈args→u.Sm) :
  Ac prog 136 [Cx s,Cg args] (.tuple [Cx (s.subst (Ad s.A1) args),B0 true]):=by
 have E:=A9z s.A1 h.A1.1;have I:=C0o (Ad s.A1) args L s h;rw [show s.A1.map (·.name)=Ad s.A1 from rfl] at E;have J:(s.A1.length:Int)=(args.length:Int):=by omega
 generalize s.subst (Ad s.A1) args=s' at *;generalize Ad s.A1=nn at *;refine cB func136 ?_;refine sR [0,1,2,4,5,11] ?_;refine Ai J [0,1,2,4,5,11] fun O u1=>?_;refine kI u1 ?_;clear u1 O
 (refine sG [0,1,2,4,5,11] [] 5 [] fun K z=>?_;refine ev ?_;refine cc E ?_;refine cc I ?_;apply z;clear z K)
 exact aR
theorem F4o (s:A5)(args:List Ty)(I:s.A1.length≠args.length):Ac prog 136 [Cx s,Cg args] (.tuple [Cx Kd,B0 false]):=by
 have E:¬(s.A1.length:Int)=(args.length:Int):=by omega
 refine cB func136 ?_;refine sR [0,1,2,4,5,11] ?_;refine Ai E [0,1,2,4,5,11] fun J u1=>?_;refine tI ?_;refine sR [0,1,2,4,5,11] ?_;exact aR
structure Au.Ni (c:Au):Prop where
 sm:c.Sm
 on:c.on.Ni 12000
 targs:∀t,t∈c.targs→t.Ni 12000
 tl:Ty.C9 c.targs≤12000000
theorem Ty.Ni.args {t:Ty} (h:t.Ni 12000):∀u,u∈t.args→u.Ni 12000:=fun u E=>by
 have L:=h.len;have O:=A6w E;rw [Ty.U8] at L;obtain⟨I,_⟩:=h;refine⟨?_,by omega⟩;cases I with
 |loc i p R=>simp [Ty.args] at E
 |Uk n a p _ _ _ J=>exact J u E
theorem C8d {l:List Param} {j:Nat} {d:Param} (h:l[j]? = some d):Hg (l.take (j+1))=Hg (l.take j)++[⟨[112]++Lib.itoa (j:Nat),R7 d.type,0⟩]:=by
 have I:=(Ay.1 h).1;have E:(l.take j).length=j:=by rw [Cw];omega
 rw [L5 I,(Ay.1 h).2];unfold Hg;rw [List.mapIdx_append,E];simp
theorem C0r (l:List Param):(Hg l).length=l.length:=by simp [Hg]
abbrev agS (n:A3)(r:A3)(x:SV):List SV:=[.d (.str n),.d .nil,x,.d (.str r),.d (.slice []),.d (.int .i64 0),.d (.int .i64 0)]
abbrev Jf:List Nat:=[0,1,3,4,5,6,7,8,9,10,21,31,43,44,45,46,900]
theorem C5k (p:Prog)(h:p.Sm)(ht:∀d,d∈p.decls→d.Tl)(hr:p.right=true)(c:Au)(I:c.Ni):Ac prog 73 [.Ag (Fu p) 0,N6 c] (Xu (Fk p c)):=by
 have R:=A6e h ht hr I.sm.on I.on.args;have L:=E0i p h [] (by simp) (by simp) c.on I.sm.on c.name;unfold Fk B0y;unfold A4c at L;have E:=@C2b (Cb p [] c.on) c.name;generalize Cb p [] c.on=l at *;by_cases h0:F8 l c.name < 0
 ·rw [A8 h0] at L ⊢;refine cB func73 ?_;refine sR Jf ?_;refine sC L Jf ?_;refine kR Jf fun J u1=>?_;refine tI ?_;refine sR Jf ?_;exact aR
 rw [A6 h0] at L ⊢;obtain⟨s,hs,a1⟩:=E h0;rw [hs,Dc] at L ⊢;have U:=R s a1;by_cases V:s.A1.length=c.targs.length;rotate_left
 ·have hb:=F4o s c.targs V;rw [A6 V];refine cB func73 ?_;refine sR Jf ?_;refine sC L Jf ?_;refine kR Jf fun J u1=>?_;refine kI u1 ?_;clear u1 J;refine kC hb Jf fun J u1=>?_;refine sR Jf ?_;refine tI ?_;refine sR Jf ?_;exact aR
 rw [A8 V];have hb:=E1q s U.sm c.targs V I.sm.targs.2;have W:=A5.Ni.subst (v:=Ad s.A1) (by decide:4≤12000) I.targs I.sm.targs.2 U;have hM:=B9i c.name I.sm.name c.targs I.sm.targs.1 (fun t h=>(I.targs t h).mg) (by have:=I.tl;omega);have e1:Md c s=⟨G3 c.name c.targs,[],Hg (s.subst (Ad s.A1) c.targs).params,R7 (s.subst (Ad s.A1) c.targs).result,0⟩:=rfl;rw [e1];generalize s.subst (Ad s.A1) c.targs=q at *;have hP:=B1i q.result W.result.mg (by have:=W.result.len;omega);have a4:=W.params.1;have O:=W.params.2;generalize G3 c.name c.targs=nm at *;refine cB func73 ?_;refine sR Jf ?_;refine sC L Jf ?_;refine kR Jf fun J u1=>?_;refine kI u1 ?_;clear u1 J;refine kC hb Jf fun J u1=>?_;refine sR Jf ?_;refine kI u1 ?_;clear u1 J
 (refine sG Jf [] 10 [⟨[],[],[8],[8]⟩,⟨[],[],[8],[8]⟩,⟨[],[],[8],[8]⟩,⟨[],[],[8],[8]⟩,⟨[],[],[8],[8]⟩,⟨[],[],[8],[8]⟩,⟨[],[],[8],[8]⟩,⟨[],[],[8],[8]⟩,⟨[],[],[8],[8]⟩,⟨[8],[8],[],[]⟩] fun K z=>?_;refine ev ?_;refine cc hM ?_;refine cc hP ?_;apply z;clear z K)
 refine A0.No 900 5 8 2 rfl rfl (by decide) ?_;refine kR Jf fun J u1=>?_;refine A0.bb (A0.ii q.params (X:=Unit) (fun j _=>[(4,.box 4 0),(8,.box 8 0),(43,.d (.slice (B5 q.params))),(44,A9 q.params.length),(45,A9 j)])
  (fun j _=>[(4,.cells [.d (.str []),.d .nil,.d .nil,.d (.str []),.d .nil,.d (.int .i64 0),.d (.int .i64 0)]),(8,.cells (agS nm q.result.mg (.acc 900))),(900,.rows 5 (B5 (Hg (q.params.take j))))])
  (fun _ _=>True) () trivial sS (by simp [ble,A7,B5,Hg];exact⟨rfl,rfl,rfl⟩) ?_ ?_)
 rotate_left
 ·intro j _ d hd E dp tk a2 _;have hj:=(Ay.1 hd).1;have hit:=B7e (j:Nat) (by omega) (by omega);have a3:=Lib.itoa_length_le j (by omega) (by omega);have a0:=B1i d.type (O d E).mg (by have:=(O d E).len;omega);have e2:B5 (Hg (q.params.take (j+1)))=B5 (Hg (q.params.take j))++[Gc ⟨[112]++Lib.itoa (j:Nat),R7 d.type,0⟩]:=by rw [C8d hd];simp [B5]
  have Z:(B5 (Hg (q.params.take j))).length=j:=by rw [B8m,C0r,Cw];omega
  rw [e2];generalize B5 (Hg (q.params.take j))=PR at *;generalize Lib.itoa (j:Nat)=ds at *;refine Ah a2 Jf ?_;refine A0.E5 rfl ?_;refine sK fun K2 u2=>?_;refine A0.bb ?_
  (refine sV Jf fun K z=>?_;refine ci (E7 hd) ?_;apply z;clear z K)
  (refine lG Jf [] 10 [] fun K z=>?_;refine ev ?_;refine cc hit ?_;refine⟨by (try simp only [B3,Bg,Ch]);unfold lim;omega,?_⟩;(try refine An Z ?_);refine⟨_,.inl ⟨_,rfl,a0,rfl⟩,?_⟩;(try refine An Z ?_);refine⟨by simp,by (try simp only [Z]);unfold lim;omega,?_⟩;(try refine An Z ?_);apply z;clear z K;try simp only [A4,Aa])
  refine u2 _ _ ?_;clear u2 K2
  (refine lV Jf fun K z=>?_;refine cl ?_;apply z;clear z K;try simp only [A4,])
  exact⟨(),trivial,sS,by simp [ble,A7,Gc]⟩
 intro _ _;rw [Cs];refine Ah B4 Jf ?_;refine A0.stop rfl ?_;simp only [A4,Aa,Af];refine u1 _ _ ?_;clear u1 J;refine sR Jf ?_;exact aR
theorem G5z (p:Prog)(h:p.Sm)(ht:∀d,d∈p.decls→d.Tl)(hr:p.right=true)(c:Au)(L:c.Ni):Ac prog 33 [Cv p,N6 c] (Xu (Fk p c)):=by
 have I:=A9d p h;have E:=C5k p h ht hr c L;cases J:Fk p c with
 |none =>
  rw [J] at E;unfold Xu at *;refine cB func33 ?_;refine sR [0,1,2,3,4,5] ?_
  (refine sG [0,1,2,3,4,5] [] 6 [] fun K z=>?_;refine ev ?_;refine cc I ?_;refine cc E ?_;apply z;clear z K)
  exact aR
 |some s =>
  rw [J] at E;unfold Xu at *;refine cB func33 ?_;refine sR [0,1,2,3,4,5] ?_
  (refine sG [0,1,2,3,4,5] [] 6 [] fun K z=>?_;refine ev ?_;refine cc I ?_;refine cc E ?_;apply z;clear z K)
  exact aR
end Go.Abs
