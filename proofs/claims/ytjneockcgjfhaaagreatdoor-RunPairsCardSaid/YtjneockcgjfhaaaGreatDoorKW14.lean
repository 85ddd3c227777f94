/- the signatures that right programs of few parts have: names that mangle takes, and how long they get; the signature for a call as a plain function -/
import Derived.Test.YtjneockcgjfhaaaGreatDoorKW08
import Derived.Test.YtjneockcgjfhaaaGreatDoorKU01
set_option linter.all false
set_option maxHeartbeats 4000000
set_option maxRecDepth 100000
namespace Go.Abs
open Go Go.Proofs Tryz
def D3b{v:List A2}{E:List Ty}{M:Nat}(Z:4<=M)(U:∀u,u∈E->u.Da<=M):∀t:Ty,4*(t.subst v E).Da<=t.Da*M:=by
 intro t
 induction t using Ty.induct with
 |h t V =>
 have J:4<=t.Da:=by rw[Ty.Tu];omega
 rw[Uo];split
 .rename_i L;have O:=U _ (C5v L.2.1 L.2.2);generalize(E[(Cb t.name v 0).toNat]?).getD default=u at O;obtain⟨n,a,q⟩:=u;have e:(Ty.mk (Ty.mk n a q).name (Ty.mk n a q).args t.pos).Da=(Ty.mk n a q).Da:=by rw[Ty.Tu,Ty.Tu];rfl
  rw[e];exact Nat.mul_le_mul J O
 .have W:∀l:List Ty,(∀t,t∈l->4*(t.subst v E).Da<=t.Da*M)->4*Ty.Bu (l.map (Ty.subst v E))<=Ty.Bu l*M:=by
   intro l
   induction l with
   |nil=>intro _;simp[Ty.Bu]
   |cons x l I =>intro h;have h1:=h x (by simp);have h2:=I λt ht=>h t (by simp[ht]);rw[Cp,Ty.Bu,Ty.Bu,Io];omega
  have h3:=W t.args V;rw[Ty.Tu,Ty.Tu t];show 4*(t.name.length+4+Ty.Bu (t.args.map (Ty.subst v E)))<=_;rw[Io];have:4*(t.name.length+4)<=(t.name.length+4)*M:=by rw[Aq2 4];exact Ak9 _ Z
  omega
structure A4.Tl(s:A4):Prop where
 A1:s.A1.length<=2000/\∀f,f∈s.A1->f.bound.Da<=120000
 params:s.params.length<=2000/\∀f,f∈s.params->f.type.Da<=120000
 result:s.result.Da<=120000
 name:s.name.length<=120000
structure Decl.Tl(d:Decl):Prop where
 fields:∀f,f∈d.fields->f.type.Da<=120000
 sigs:∀s,s∈d.sigs->s.Tl
 sig:d.sig.Tl
def Ty.U4{t:Ty}{k:Int}(E:0<=k)(h:t.count k<=2000):t.Da<=120000:=by have:=Ty.A1f t k h;omega
def C5r:Ps Ca (λf=>f.bound.Da<=120000):=P0 Ca (λf n=>f.bound.count (n+1+((f.name.length / 50:Nat):Int))) (λf=>f.bound.Da<=120000) (λ_=>rfl) (λ_ _ _=>rfl)
 (λx k=>by have:=Ty.F7 x.bound (k+1+((x.name.length / 50:Nat):Int));omega)
 (λx k E h=>Ty.U4 (by omega) h)
def C8f:Ps D4 (λf=>f.type.Da<=120000):=P0 D4 (λf n=>f.type.count (n+1+((f.name.length / 50:Nat):Int))) (λf=>f.type.Da<=120000) (λ_=>rfl) (λ_ _ _=>rfl)
 (λx k=>by have:=Ty.F7 x.type (k+1+((x.name.length / 50:Nat):Int));omega)
 (λx k E h=>Ty.U4 (by omega) h)
def A4.U4(s:A4)(n:Int)(L:0<=n)(h:s.count n<=2000):s.Tl:=by unfold A4.count at h;obtain⟨V,E⟩:=C5r s.A1 (n+((s.name.length / 50:Nat):Int));obtain⟨J,I⟩:=C8f s.params (Ca s.A1 (n+((s.name.length / 50:Nat):Int)));have O:=Ty.F7 s.result (D4 s.params (Ca s.A1 (n+((s.name.length / 50:Nat):Int))));have W:=(E (by omega) (by omega)).1;have U:=(I (by omega) (by omega)).1;exact⟨⟨by omega,(E (by omega) (by omega)).2⟩,⟨by omega,(I (by omega) (by omega)).2⟩,Ty.U4 (by omega) h,by omega⟩
def E3v:Ps Eh A4.Tl:=P0 Eh A4.count A4.Tl (λ_=>rfl) (λ_ _ _=>rfl) (λx k=>(A4.G3 x k).1) (λx k E h=>A4.U4 x k E h)
def Decl.U4(d:Decl)(n:Int)(W:0<=n)(h:d.count n<=2000):d.Tl:=by unfold Decl.count at h;generalize V:n+1+((d.name.length / 50:Nat):Int)+((d.recv.length / 50:Nat):Int)=m at h;obtain⟨a1,J⟩:=C5r d.A1 m;obtain⟨L,I⟩:=C8f d.fields (Ca d.A1 m);obtain⟨Z,E⟩:=E3v d.sigs (D4 d.fields (Ca d.A1 m));obtain⟨e1,e2⟩:=A2x d.vars (Eh d.sigs (D4 d.fields (Ca d.A1 m)));generalize U:Ja d.vars (Eh d.sigs (D4 d.fields (Ca d.A1 m)))=z at*;unfold Decl.Si at h;obtain⟨f1,_⟩:=A4.G3 d.sig z;have O:=Ex.F7 d.body (d.sig.count z);split at h;exact⟨(I (by omega) (by omega)).2,(E (by omega) (by omega)).2,A4.U4 d.sig z (by omega) (by omega)⟩;omega
def G9y:Ps Jt Decl.Tl:=P0 Jt Decl.count Decl.Tl (λ_=>rfl) (λ_ _ _=>rfl) (λx k=>(Decl.G3 x k).1) (λx k E h=>Decl.U4 x k E h)
def Prog.U4(p:Prog)(h:p.count<=600):∀d,d∈p.decls->d.Tl:=by unfold Prog.count at h;have I:=Ex.F7 p.main 0;obtain⟨J,E⟩:=G9y p.decls (p.main.count 0);exact(E (by omega) (by omega)).2
structure Ty.Ni(B:Nat)(t:Ty):Prop where
 mg:t.Mg
 len:t.Da<=B
structure A4.Ni(B:Nat)(s:A4):Prop where
 sm:s.Sm
 A1:s.A1.length<=2000/\∀f,f∈s.A1->f.bound.Ni B
 params:s.params.length<=2000/\∀f,f∈s.params->f.type.Ni B
 result:s.result.Ni B
 nm:s.name.length<=1000000
def A4.D0t{s:A4}(hs:s.Sm)(ht:s.Tl)(hr:s.right=true):s.Ni 120000:=by simp only[A4.right,Qg,Nd,Bi,Dr]at hr;exact⟨hs,⟨ht.A1.1,λf E=>⟨Ty.A4d (hs.A1.2 f E).bound (hr.1.1.2 f E).2,ht.A1.2 f E⟩⟩,⟨ht.params.1,λf E=>⟨Ty.A4d (hs.params.2 f E).type (hr.1.2 f E).2,ht.params.2 f E⟩⟩,⟨Ty.A4d hs.result hr.2,ht.result⟩,Dd ht.name (by decide)⟩
def Ty.Ni.subst{B M:Nat}(L:4<=M){v:List A2}{J:List Ty}(I:∀u,u∈J->u.Ni M){t:Ty}(h:t.Ni B):(t.subst v J).Ni (B*M / 4):=by refine⟨Ty.Mg.subst (λu E=>(I u E).mg) h.mg,?_⟩;rw[Nat.le_div_iff_mul_le (by decide),Aq2];exact Dd (D3b L (λu E=>(I u E).len) t) (Iv _ h.len)
def A4.Ni.subst{B M:Nat}(O:4<=M){v:List A2}{J:List Ty}(L:∀u,u∈J->u.Ni M)(has:∀u,u∈J->u.Sm){s:A4}(h:s.Ni B):(s.subst v J).Ni (B*M / 4):=by refine⟨h.sm.subst has,⟨by simp only[A4.subst,Bc];exact h.A1.1,λf I=>?_⟩,⟨by simp only[A4.subst,Bc];exact h.params.1,λf I=>?_⟩,h.result.subst O L,h.nm⟩;obtain⟨x,E,rfl⟩:=Au.1 I;exact(h.A1.2 x E).subst O L;obtain⟨x,E,rfl⟩:=Au.1 I;exact(h.params.2 x E).subst O L
def F4z(i:Nat)(h:i<=100000):(V4 i).Ni 12:=by refine⟨E3e i h,?_⟩;have:=B2h i h;rw[Ty.Tu];simp only[V4,Ty.name,Ty.args,Ty.Bu,Dc,Tk,Ar];omega
theorem A4.Ni.canon{B:Nat}{s:A4}(h:s.Ni B):s.canon.Ni (B*12 / 4):=by
 have O:=h.A1.1;have hs:∀u,u∈D7 s.A1.length->u.Ni 12:=λu L=>by obtain⟨i,J,rfl⟩:=Au.1 L;exact F4z i (by have:=As3.1 J;omega)
 refine⟨h.sm.canon,⟨by simp only[A4.canon,Xj];exact h.A1.1,λf I=>?_⟩,⟨by simp only[A4.canon,Vv];exact h.params.1,λf I=>?_⟩,h.result.subst (by decide) hs,h.nm⟩;obtain⟨i,x,E,J,rfl⟩:=mem_mapIdx I;exact(h.A1.2 x (Bm E)).subst (by decide) hs;obtain⟨i,x,E,J,rfl⟩:=mem_mapIdx I;exact(h.params.2 x (Bm E)).subst (by decide) hs
def C8x{α:Type}(f:α->A2)(c:Nat):∀l:List α,(∀x,x∈l->(f x).length<=c)->(l.flatMap f).length<=l.length*c
 |[],_=>by simp
 |a::l,h=>by rw[Aj9,As,Ar,Nat.succ_mul];have:=C8x f c l λx E=>h x (by simp[E]);have:=h a (by simp);omega
def A4.Ni.mono{B C:Nat}(h:B<=C){s:A4}(k:s.Ni B):s.Ni C :=⟨k.sm,⟨k.A1.1,λf E=>⟨(k.A1.2 f E).mg,Dd (k.A1.2 f E).len h⟩⟩,⟨k.params.1,λf E=>⟨(k.params.2 f E).mg,Dd (k.params.2 f E).len h⟩⟩,⟨k.result.mg,Dd k.result.len h⟩,k.nm⟩
def A4.Ni.C9n{s:A4}(h:s.Ni 1200000000):(Km s).length<=30000000000000:=by
 have I:=h.canon;have J:=I.A1;have L:=I.params;have hr:=I.result;have e1:=Ty.W9 s.canon.result;have Z:=A3q s.name;have e3:=h.nm;have O:(Js s.canon.A1).length<=s.canon.A1.length*7200000002:=C8x _ _ _ λf E=>by have:=(J.2 f E).len;have:=Ty.W9 f.bound;rw[As];simp only[Ar,Az];omega
 have U:(Jm s.canon.params).length<=s.canon.params.length*7200000002:=C8x _ _ _ λf E=>by have:=(L.2 f E).len;have:=Ty.W9 f.type;rw[As];simp only[Ar,Az];omega
 have W:s.canon.A1.length*7200000002<=2000*7200000002:=Iv _ J.1;have V:s.canon.params.length*7200000002<=2000*7200000002:=Iv _ L.1;unfold Km;simp only[As,Ar,Az];have:=hr.len;omega
def A4.Ni.dum{s:A4}(h:s.Ni 1200000000):C7v s:=by have I:=h.canon;have hr:=I.result;refine⟨h.sm,λf E=>⟨(I.A1.2 f E).mg,?_⟩,λf E=>⟨(I.params.2 f E).mg,?_⟩,⟨hr.mg,?_⟩,Dd h.C9n (by decide)⟩;have:=(I.A1.2 f E).len;unfold B0o;omega;have:=(I.params.2 f E).len;unfold B0o;omega;have:=hr.len;unfold B0o;omega
theorem Prog.B3n{p:Prog}(hs:p.Sm)(ht:∀d,d∈p.decls->d.Tl)(hr:p.right=true){d:Decl}(hd:d∈p.decls):(∀s,s∈d.sigs->s.Ni 120000)/\(d.kind=3->d.sig.Ni 120000):=by simp only[Prog.right,Bi,Dr]at hr;have h:=hr.1 d hd;simp only[Decl.right,Bi,Dr]at h;have I:=hs.decls.2 d hd;refine⟨λs E=>A4.D0t (I.sigs.2 s E) ((ht d hd).sigs s E) (h.2.2.2.1 s E),λL=>?_⟩;have J:=h.2.2.2.2.2;unfold Decl.Uc at J;rw[A6 L]at J;simp only[Bi]at J;exact A4.D0t I.sig (ht d hd).sig J.2.2.1
def A6b{p:Prog}(hs:p.Sm)(ht:∀d,d∈p.decls->d.Tl)(hr:p.right=true){x:Ty}(U:x.Sm)(W:∀u,u∈x.args->u.Ni 12000):∀s,s∈Cd p [] x->s.Ni 1080000000:=by
 intro s E;have E:=(Zf _).mem_iff.1 E;have key:∀{v:List A2} {y:A4},y.Ni 120000->(y.canon.subst v x.args).Ni 1080000000:=λh=>A4.Ni.subst (B:=360000) (M:=12000) (by decide) W U.arg h.canon;have V:Ct [] x=none:=by simp[Ct,Fi,Cw]
 unfold Cv at E;rw[V]at E;simp only[Rv,Nb,I5,Fm]at E;split at E;rename_i O;unfold H2 at E;rw[A6 O]at E;obtain⟨d,hd,_⟩:=N4 (by decide) O;rw[hd,Dh]at E;unfold Wm Ic at E;obtain⟨⟨y,i⟩,J,rfl⟩:=Au.1 E;have L:=Mt (Vt (Kr.1 J).1);exact key ((Prog.B3n hs ht hr (Qb hd)).1 y L);unfold Gw at E;obtain⟨⟨d,i⟩,J,rfl⟩:=Au.1 E;have L:d∈p.decls:=Mt (Vt (Kr.1 J).1);have I:=(Kr.1 J).2;unfold J6 at I;simp only[Bi,E4]at I;exact key ((Prog.B3n hs ht hr L).2 (by first|exact I.1.1.1|exact I.1.1|exact I.1))
def Hf(l:List Param):List Param:=l.mapIdx λi f=>⟨[112]++Lib.itoa (i:Nat),Pm f.type,0⟩
def Dy(c:B8)(s:A4):A4:=⟨Dg c.name c.targs,[],Hf (s.params.map (Param.subst (Ad s.A1) c.targs)),Pm (s.result.subst (Ad s.A1) c.targs),0⟩
def A7o(l:List A4)(c:B8):Option A4:=if F5 l c.name<0 then none else
 if((l[(F5 l c.name).toNat]?).getD Jc).A1.length=c.targs.length then some (Dy c ((l[(F5 l c.name).toNat]?).getD Jc))else none
def I4(p:Prog)(c:B8):Option A4:=A7o (Cd p [] c.on) c
def sgR:Option A4->SV
 |none=>.tuple [E0 Jc,B1 false]
 |some s=>.tuple [E0 s,B1 true]
def C6y{l:List A4}{m:A2}(h:¬F5 l m<0):∃s,l[(F5 l m).toNat]?=some s/\s∈l:=by unfold F5 at*;rcases Lo (λs:A4=>decide (s.name=m)) l with⟨E,_⟩|⟨j,s,E,I,_⟩;rw[E]at h;exact absurd (by decide) h;rw[E,Hx];exact⟨s,I,Bm I⟩
structure B8.Ni(c:B8):Prop where
 sm:c.Sm
 on:c.on.Ni 12000
 targs:∀t,t∈c.targs->t.Ni 12000
 tl:Ty.Bu c.targs<=12000000
theorem Ty.Ni.args{t:Ty}(h:t.Ni 12000):∀u,u∈t.args->u.Ni 12000:=λu E=>by
 have I:=h.len;have U:=Wh E;rw[Ty.Tu]at I;obtain⟨J,_⟩:=h;refine⟨?_,by omega⟩;cases J with
 |loc i p O=>simp[Ty.args]at E
 |Ph n a p _ _ _ L=>exact L u E
def D4f{l:List Param}{j:Nat}{d:Param}(h:l[j]?=some d):Hf (l.take (j+1))=Hf (l.take j)++[⟨[112]++Lib.itoa (j:Nat),Pm d.type,0⟩]:=by
 have I:=(Aw.1 h).1;have E:(l.take j).length=j:=by rw[D0];omega
 rw[La I,(Aw.1 h).2];unfold Hf;rw[List.mapIdx_append,E];simp
def A4j(l:List Param):(Hf l).length=l.length:=by simp[Hf]
abbrev agS(n:A2)(r:A2)(x:SV):List SV:=[.d (.str n),.d .nil,x,.d (.str r),.d (.slice []),.d (.int .i64 0),.d (.int .i64 0)]
abbrev Ko:List Nat:=[0,1,2,3,4,5,6,7,8,9,10,11,33,64,900]
def E1e(p:Prog)(h:p.Sm)(ht:∀d,d∈p.decls->d.Tl)(hr:p.right=true)(c:B8)(J:c.Ni):Ab prog 57 [Cq p,caV c] (sgR (I4 p c)):=by
 have U:=A6b h ht hr J.sm.on J.on.args;have hS:=A6n p h [] (by simp) (by simp) c.on J.sm.on;have a0:=Y9 h [] c.on;have hF:=B4i (Cd p [] c.on) c.name a0;unfold I4 A7o;have E:=@C6y (Cd p [] c.on) c.name;rw[show Cw (λs:A4=>decide (s.name=c.name)) (Cd p [] c.on)=F5 (Cd p [] c.on) c.name from rfl]at hF;generalize Cd p [] c.on=l at*;generalize F5 l c.name=n at*;by_cases O:n<0
 .rw[A6 O];refine cB func57 ?_;refine sR Ko ?_;refine sC hS Ko ?_;refine sC hF Ko<|sK λK1 u1=>?_
  refine sG Ko [] 12 [] λK z=>?_;refine Ah O ?_;apply z;clear z K;refine tI ?_;refine sR Ko ?_;exact aR
 rw[A3 O];obtain⟨s,hs,a8⟩:=E O;have aa:0<=n:=by omega
 have a':n<l.length:=by have:=(Aw.1 hs).1;omega
 rw[hs,Dh];have I:=U s a8;by_cases hl:s.A1.length=c.targs.length;rotate_left
 .have L:¬(s.A1.length:Int)=(c.targs.length:Int):=by omega
  rw[A3 hl];refine cB func57 ?_;refine sR Ko ?_;refine sC hS Ko ?_;refine sC hF Ko<|sK λK1 u1=>?_
  refine sG Ko [] 12 [] λK z=>?_;refine Ah O ?_;refine⟨by omega,_,De hs,rfl,?_⟩;(try refine Ah L ?_);apply z;clear z K;refine tI ?_;refine sR Ko ?_;exact aR
 rw[A6 hl];have L:(s.A1.length:Int)=(c.targs.length:Int):=by omega
 have V:=Qh s.A1 I.sm.A1.1;rw[show s.A1.map (·.name)=Ad s.A1 from rfl]at V;have hM:=C4m c.name J.sm.name c.targs J.sm.targs.1 (λt h=>(J.targs t h).mg) (by have:=J.tl;omega);have a7:=Q0 (Ad s.A1) c.targs J.sm.targs.2 s.result I.sm.result;have hq:=A4.Ni.subst (v:=Ad s.A1) (by decide:4<=12000) J.targs J.sm.targs.2 I;have hP:=B1m (s.result.subst (Ad s.A1) c.targs) hq.result.mg (Dd hq.result.len (by decide));have a9:=I.params.1;have a4:=I.params.2;have a1:=I.sm.params.2;have e1:Dy c s=⟨Dg c.name c.targs,[],Hf (s.params.map (Param.subst (Ad s.A1) c.targs)),Pm (s.result.subst (Ad s.A1) c.targs),0⟩:=rfl;rw[e1];generalize s.result.subst (Ad s.A1) c.targs=rt at*;generalize Dg c.name c.targs=nm at*;generalize ac:Ad s.A1=nn at*;refine cB func57 ?_;refine sR Ko ?_;refine sC hS Ko ?_;refine sC hF Ko<|sK λK1 u1=>?_
 refine sG Ko [] 12 [] λK z=>?_;refine Ah O ?_;refine⟨by omega,_,De hs,rfl,?_⟩;(try refine Ah L ?_);apply z;clear z K;refine kI u1 ?_;clear u1 K1;refine sV Ko λK z=>?_;refine ci (De hs) ?_;refine cc V ?_;apply z;clear z K;refine sG Ko [] 17 gh λK z=>?_;refine ev ?_;refine cc hM ?_;refine ci (De hs) ?_;refine cc a7 ?_;refine cc hP ?_;apply z;clear z K;refine A0.Nz 900 5 9 2 rfl rfl (by decide)<|kR Ko λK1 u1=>?_;refine A0.bb (A0.ii s.params (X:=Unit) (λj _=>[(3,.box 3 0),(4,.box 4 0),(6,.d (.slice (B9 l))),(7,A7 n),(8,Ce nn),(9,.box 9 0),(10,A7 j)]) (λj _=>[(3,.cells (caS c)),(4,.cells [.d (.str []),.d .nil,.d .nil,.d (.str []),.d .nil,.d (.int .i64 0),.d (.int .i64 0)]),(9,.cells (agS nm rt.mg (.acc 900))),(900,.rows 5 (Ay (Hf ((s.params.take j).map (Param.subst nn c.targs)))))]) (λ_ _=>True) () trivial sS (by simp[ble,A8,Ay,Hf];exact⟨rfl,rfl,rfl⟩) ?_ ?_)
 rotate_left
 .intro j _ d hd E dp tk a6 _;have hj:=(Aw.1 hd).1;have hit:=B8g j (by unfold sm;omega);have ab:=Lib.itoa_length_le j (by omega) (by omega);rw[<-Tk]at hit;have Z:=Ty.Ni.subst (v:=nn) (by decide:4<=12000) J.targs (a4 d E);have a2:=Q0 nn c.targs J.sm.targs.2 d.type (a1 d E).type;have a3:=B1m (d.type.subst nn c.targs) Z.mg (by have:=Z.len;omega);have a5:(s.params.map (Param.subst nn c.targs))[j]?=some (Param.subst nn c.targs d):=by rw[Db,hd];rfl
  have e2:Ay (Hf ((s.params.take (j+1)).map (Param.subst nn c.targs)))=Ay (Hf ((s.params.take j).map (Param.subst nn c.targs)))++[E9 ⟨[112]++Lib.itoa (j:Nat),Pm (d.type.subst nn c.targs),0⟩]:=by rw[List.map_take,D4f a5,List.map_take];simp[Ay,Param.subst]
  have e3:(Ay (Hf ((s.params.take j).map (Param.subst nn c.targs)))).length=j:=by rw[A8a,A4j,Bc,D0];omega
  rw[e2];generalize Ay (Hf ((s.params.take j).map (Param.subst nn c.targs)))=PR at*;generalize d.type.subst nn c.targs=dt at*;generalize Lib.itoa (j:Nat)=ds at*;refine sK λW u2=>?_;refine sV Ko λK z=>?_;refine⟨by omega,_,De hs,rfl,?_⟩;(try refine Ah a6 ?_);apply z;clear z K;refine gI u2 ?_;clear u2 W;refine sK λW u2=>A0.bb ?_;refine sG Ko [] 14 gi λK z=>?_;refine ev ?_;refine ci (De hs) ?_;refine ci (Dx hd) ?_;refine cc a2 ?_;apply z;clear z K;(refine lG Ko [] 9 [] λK z=>?_;refine ev ?_;refine cc hit ?_;refine⟨by(try simp only[As,Ar,Az]);unfold lim;omega,?_⟩;(try refine Ah e3 ?_);refine⟨_,.inl ⟨_,rfl,a3,rfl⟩,?_⟩;(try refine Ah e3 ?_);refine⟨by simp,by(try simp only[e3]);unfold lim;omega,?_⟩;(try refine Ah e3 ?_);apply z;clear z K;try simp only[A5,A9]);refine u2 _ _ ?_;clear u2 W;(refine lV Ko λK z=>?_;refine cl ?_;apply z;clear z K;try simp only[A5,]);exact⟨(),trivial,sS,by simp[ble,A8,E9]⟩
 intro _ _;rw[Cx];refine sK λW u2=>?_;refine sV Ko λK z=>?_;refine⟨by omega,_,De hs,rfl,?_⟩;(try refine Ah B6 ?_);apply z;clear z K;refine A0.ss rfl ?_;simp only[A5,A9,Ac];refine u1 _ _ ?_;clear u2 W u1 K1;refine sR Ko ?_;exact aR
end Go.Abs
