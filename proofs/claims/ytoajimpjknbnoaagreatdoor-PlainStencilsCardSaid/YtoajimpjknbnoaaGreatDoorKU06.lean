import Derived.Test.YtoajimpjknbnoaaGreatDoorKS58
import Derived.Test.YtoajimpjknbnoaaGreatDoorKW21
import Derived.Test.YtoajimpjknbnoaaGreatDoorKW08
set_option linter.all false
set_option maxHeartbeats 4000000
set_option maxRecDepth 100000
namespace Go.iA
open Go
def Wi(x:Ex):List Ty:=x.targs++if x.kind=3\/x.kind=5 then[x.type]else[]
def Iy(l:List Ex):List Ty:=l.flatMap Wi
def Nc(e:Ex):List Ty:=Iy (B3 e)
def Gs(l:List Aj):List Ty:=l.map (·.bound)
def H5(l:List Param):List Ty:=l.map (·.type)
def Lw(s:A4):List Ty:=Gs s.A1++H5 s.params++[s.result]
def Lk(l:List A4):List Ty:=l.flatMap Lw
def Rz(d:Decl):List Ty:=if d.kind=3 then Lw d.sig++Nc d.body else[]
def X6(d:Decl):List Ty:=Gs d.A1++H5 d.fields++Lk d.sigs++Rz d
def Pd(l:List Decl):List Ty:=l.flatMap X6
def Lj(p:Prog):List Ty:=Pd p.decls++Nc p.main
def Ku(e:Ex):Bool:=(B3 e).all λx=>decide (x.targs.length=0)
def Rm(l:List A4):Bool:=l.all λs=>decide (s.A1.length=0)
def Qf(d:Decl):Bool:=decide (d.A1.length+d.vars.length+d.sig.A1.length=0) && (Ku d.body && Rm d.sigs)
def Ra(l:List Ty):Bool:=l.all λt=>decide (t.args.length=0)
def Pp(p:Prog):Bool:=Ra (Lj p) && (p.decls.all Qf && Ku p.main)
def OC(Q:Ty->Prop)(e:Ex):Prop:=(e.kind=3\/e.kind=5->Q e.type)/\∀t,t∈e.targs->Q t
structure rL(Q:Ty->Prop)(s:A4):Prop where
 A1:∀f,f∈s.A1->Q f.bound
 params:∀f,f∈s.params->Q f.type
 result:Q s.result
structure jZ(Q:Ty->Prop)(d:Decl):Prop where
 A1:∀f,f∈d.A1->Q f.bound
 fields:∀f,f∈d.fields->Q f.type
 sigs:∀s,s∈d.sigs->rL Q s
 sig:d.kind=3->rL Q d.sig
 body:d.kind=3->∀x,x∈B3 d.body->OC Q x
def MX{Q:Ty->Prop}{p:Prog}(hd:∀d,d∈p.decls->jZ Q d)(hm:∀x,x∈B3 p.main->OC Q x):∀t,t∈Lj p->Q t:=by
 have J:∀e:Ex,(∀x,x∈B3 e->OC Q x)->∀t,t∈Nc e->Q t:=by intro e Z t ht;unfold Nc Iy at ht;obtain⟨x,hx,ht⟩:=P4.1 ht;obtain⟨V,W⟩:=Z x hx;unfold Wi at ht;rcases Bj.1 ht with ht|ht;exact W t ht;split at ht;rename_i O;simp only[Ay,Eh,Eo]at ht;rw[ht];exact V O;simp at ht
 have L:∀s:A4,rL Q s->∀t,t∈Lw s->Q t:=by intro s hs t ht;simp only[Lw,Gs,H5,Bj,Ap,Ay,Eh,Eo]at ht;rcases ht with(⟨f,I,rfl⟩|⟨f,I,rfl⟩)|rfl;exact hs.A1 f I;exact hs.params f I;exact hs.result
 intro t ht;unfold Lj Pd at ht;rcases Bj.1 ht with ht|ht;obtain⟨d,U,ht⟩:=P4.1 ht;have E:=hd d U;unfold X6 at ht;simp only[Bj]at ht;rcases ht with((ht|ht)|ht)|ht;obtain⟨f,I,rfl⟩:=Ap.1 ht;exact E.A1 f I;obtain⟨f,I,rfl⟩:=Ap.1 ht;exact E.fields f I;unfold Lk at ht;obtain⟨s,hs,ht⟩:=P4.1 ht;exact L s (E.sigs s hs) t ht;unfold Rz at ht;split at ht;rename_i O;rcases Bj.1 ht with ht|ht;exact L d.sig (E.sig O) t ht;exact J d.body (E.body O) t ht;simp at ht;exact J p.main hm t ht
open Go Go.Proofs Tryz
def FB:∀(l:List Ty)(k:Int),Ty.Ct l k<=2000->k+(l.length:Int)<=Ty.Ct l k
 |[],k,_=>by simp[Ty.Ct]
 |t::E,k,h=>by
  simp only[Ty.Ct]at h |-;split at h
  rename_i I;rw[A7 I];have L:=FB E _ h;have J:=Ty.Fu t k;simp only[Bg];omega;omega
def H7o(e:Ex)(l:List Ex):Iy (e::l)=Wi e++Iy l:=rfl
def zI(a b:List Ex):Iy (a++b)=Iy a++Iy b:=by simp[Iy]
def dX(x:Ex):(Wi x).length<=x.targs.length+1:=by unfold Wi;rw[B5];split <;> simp
mutual
theorem LB:∀(e:Ex)(k:Int),e.count k<=2000->k+((B3 e).length:Int)<=e.count k/\k+((Nc e).length:Int)<=e.count k
 |.mk E n t a ks p,k,h=>by simp only[Ex.count]at h |-;have W:=Ty.Fu t (k+((n.length / 50:Nat):Int));have L:=Ty.Lz a (t.count (k+((n.length / 50:Nat):Int)));have U:=Ex.Lz ks (Ty.Ct a (t.count (k+((n.length / 50:Nat):Int))));have g2:=FB a (t.count (k+((n.length / 50:Nat):Int))) (by omega);obtain⟨Z,g4⟩:=JB ks (Ty.Ct a (t.count (k+((n.length / 50:Nat):Int)))) h;have V:=dX (.mk E n t a ks p);rw[show(Ex.mk E n t a ks p).targs=a from rfl]at V;unfold Nc;rw[B3,H7o];simp only[Bg,B5];omega
theorem JB:∀(l:List Ex)(k:Int),Ex.Ct l k<=2000->k+((Cx l).length:Int)<=Ex.Ct l k/\k+((Iy (Cx l)).length:Int)<=Ex.Ct l k
 |[],k,_=>by simp[Ex.Ct,Cx,Iy]
 |t::I,k,h=>by
  simp only[Ex.Ct]at h |-;split at h
  rename_i O;rw[A7 O];have W:=Ex.Lz I (t.count k);obtain⟨L,U⟩:=JB I (t.count k) h;obtain⟨h4,J⟩:=LB t k (by omega);unfold Nc at J;rw[Cx,zI];simp only[B5];omega;omega
end
structure Ex.Le(e:Ex):Prop where
 list:(B3 e).length<=2000
 Dr:(Nc e).length<=2000
def Ex.Ru(e:Ex)(k:Int)(E:0<=k)(h:e.count k<=2000):e.Le:=by have:=LB e k h;exact⟨by omega,by omega⟩
structure A4.Le(s:A4):Prop where
 A1:s.A1.length<=2000
 params:s.params.length<=2000
structure Decl.Le(d:Decl):Prop where
 A1:d.A1.length<=2000
 fields:d.fields.length<=2000
 xC:d.sigs.length<=3000
 sigs:∀s,s∈d.sigs->s.Le
 sig:d.sig.Le
 body:d.body.Le
structure Prog.Le(p:Prog):Prop where
 yC:p.decls.length<=200000
 decls:∀d,d∈p.decls->d.Le
 main:p.main.Le
def A4.Ru(s:A4)(n:Int)(O:0<=n)(h:s.count n<=2000):s.Le:=by unfold A4.count at h;obtain⟨V,I⟩:=bG s.A1 (n+((s.name.length / 50:Nat):Int));obtain⟨L,E⟩:=cF s.params (Cf s.A1 (n+((s.name.length / 50:Nat):Int)));have U:=Ty.Fu s.result (Dj s.params (Cf s.A1 (n+((s.name.length / 50:Nat):Int))));have J:=(I (by omega) (by omega)).1;have W:=(E (by omega) (by omega)).1;exact⟨by omega,by omega⟩
def wa:Pb Ez A4.Le:=P1 Ez A4.count A4.Le (λ_=>rfl) (λ_ _ _=>rfl) (λx k=>(A4.H9 x k).1) (λx k E h=>A4.Ru x k E h)
def Decl.Ru(d:Decl)(n:Int)(h0:0<=n)(h:d.count n<=2000):d.Le:=by unfold Decl.count at h;generalize hm:n+1+((d.name.length / 50:Nat):Int)+((d.recv.length / 50:Nat):Int)=m at h;obtain⟨a1,J⟩:=bG d.A1 m;obtain⟨b1,I⟩:=cF d.fields (Cf d.A1 m);obtain⟨c1,E⟩:=wa d.sigs (Dj d.fields (Cf d.A1 m));obtain⟨L,e2⟩:=QD d.vars (Ez d.sigs (Dj d.fields (Cf d.A1 m)));generalize V:Jb d.vars (Ez d.sigs (Dj d.fields (Cf d.A1 m)))=z at*;unfold Decl.S8 at h;obtain⟨f1,_⟩:=A4.H9 d.sig z;have W:=Ex.Fu d.body (d.sig.count z);split at h;have O:=(J (by omega) (by omega)).1;have Z:=(I (by omega) (by omega)).1;have U:=(E (by omega) (by omega)).1;exact⟨by omega,by omega,by omega,(E (by omega) (by omega)).2,A4.Ru d.sig z (by omega) (by omega),Ex.Ru d.body (d.sig.count z) (by omega) h⟩;omega
def F4t:Pb J8 Decl.Le:=P1 J8 Decl.count Decl.Le (λ_=>rfl) (λ_ _ _=>rfl) (λx k=>(Decl.H9 x k).1) (λx k E h=>Decl.Ru x k E h)
def Prog.Ru(p:Prog)(h:p.count<=600):p.Le:=by unfold Prog.count at h;have I:=Ex.Fu p.main 0;obtain⟨J,E⟩:=F4t p.decls (p.main.count 0);have:=(E (by omega) (by omega)).1;exact⟨by omega,(E (by omega) (by omega)).2,Ex.Ru p.main 0 (by omega) (by omega)⟩
def wI{α β:Type}(f:α->List β)(c:Nat):∀l:List α,(∀x,x∈l->(f x).length<=c)->(l.flatMap f).length<=l.length*c
 |[],_=>by simp
 |a::l,h=>by rw[Ww,B5,Bg,Nat.succ_mul];have:=wI f c l λx E=>h x (by simp[E]);have:=h a (by simp);omega
def eI{s:A4}(h:s.Le):(Lw s).length<=4001:=by have:=h.A1;have:=h.params;simp only[Lw,Gs,H5,B5,B7,Bg,Ck];omega
def XQ{l:List A4}(E:l.length<=3000)(h:∀s,s∈l->s.Le):(Lk l).length<=12003000:=by have I:=wI Lw 4001 l λs hs=>eI (h s hs);have J:l.length*4001<=3000*4001:=Ih _ E;unfold Lk;omega
def p0{l:List A4}(E:l.length<=3000)(h:∀s,s∈l->s.Le)(j:Nat):(Lk (l.take j)).length<=12003000 :=XQ (by rw[Dh];omega) λs hs=>h s (Kv hs)
def F6m{d:Decl}(h:d.Le):(Rz d).length<=6001:=by unfold Rz;split;rw[B5];have:=eI h.sig;have:=h.body.Dr;omega;simp
def gz{d:Decl}(h:d.Le):(X6 d).length<=13000000:=by have:=XQ h.xC h.sigs;have:=F6m h;have:=h.A1;have:=h.fields;simp only[X6,Gs,H5,B5,B7];omega
def WQ{l:List Decl}(E:l.length<=200000)(h:∀s,s∈l->s.Le):(Pd l).length<=2600000000000:=by have I:=wI X6 13000000 l λs hs=>gz (h s hs);have J:l.length*13000000<=200000*13000000:=Ih _ E;unfold Pd;omega
def sk{l:List Decl}(E:l.length<=200000)(h:∀s,s∈l->s.Le)(j:Nat):(Pd (l.take j)).length<=2600000000000 :=WQ (by rw[Dh];omega) λs hs=>h s (Kv hs)
def bP{p:Prog}(h:p.Le):(Lj p).length<=2600000002000:=by have:=WQ h.yC h.decls;have:=h.main.Dr;unfold Lj;rw[B5];omega
abbrev Ux:=[0,1,2,3,4,5,10,26]
def YX(s:A4)(hs:s.Le):Ab Tryz.prog 154 [Db s] (.d (.slice (Au (Lw s)))):=by
 have Z:=hs.A1;have W:=hs.params;unfold Lw;refine cB func154 ?_;refine sR Ux ?_;refine sR Ux ?_;refine A0.pp 3 3 3 rfl<|kR Ux λO u1=>?_;refine bA (A0.ii s.A1 (X:=Unit) (λj _=>[(1,.box 1 0),(3,.acc 3),(4,A6 j)]) (λj _=>[(1,.cells (Q3 s)),(3,.rows 3 (Au (Gs (s.A1.take j))))]) (λ_ _=>True) () trivial sS (by simp[ble,A9,Gs,Cq]) ?_ ?_)
 rotate_left;intro j _ u J L V tk I _;have U:=(Az.1 J).1;rw[tk];refine Ag I Ux λE u2=>?_;refine gI u2 ?_;refine sK λE u2=>bA ?_;(refine lV Ux λK z=>?_;refine ci (Fm J) ?_;refine⟨by simp,by(try simp only[Gs,B7,Dh]);unfold lim;omega,?_⟩;(try refine ev ?_);apply z;try simp only[Aa,Af]);apply u2;(refine lV Ux λK z=>?_;refine cl ?_;apply z;try simp only[Aa,]);exact⟨(),trivial,sS,by simp[ble,A9,Cq,Gs,Bf]⟩;intro _ _;rw[Ca];refine Ag B1 Ux λE u2=>?_;refine sE ?_;apply u1;refine kR Ux λO u1=>?_;refine bA (A0.ii s.params (X:=Unit) (λj _=>[(1,.box 1 0),(3,.acc 3),(5,A6 j)]) (λj _=>[(1,.cells (Q3 s)),(3,.rows 3 (Au (Gs s.A1++H5 (s.params.take j))))]) (λ_ _=>True) () trivial sS (by simp[ble,A9,H5,Cq]) ?_ ?_);rotate_left;intro j _ u J L V tk I _;have U:=(Az.1 J).1;rw[tk];refine Ag I Ux λE u2=>?_;refine gI u2 ?_;refine sK λE u2=>bA ?_;(refine lV Ux λK z=>?_;refine ci (Dt J) ?_;refine⟨by simp,by(try simp only[Gs,H5,B5,B7,Dh]);unfold lim;omega,?_⟩;(try refine ev ?_);apply z;try simp only[Aa,Af]);apply u2;(refine lV Ux λK z=>?_;refine cl ?_;apply z;try simp only[Aa,]);exact⟨(),trivial,sS,by simp[ble,A9,Cq,H5,Bf]⟩;intro _ _;rw[Ca];refine Ag B1 Ux λE u2=>?_;refine sE ?_;apply u1;rw[VO (Gs s.A1++H5 s.params),show Au [s.result]=[Bf s.result] by simp[Cq]];refine sV Ux λK z=>?_;refine⟨by simp,by(try simp only[Gs,H5,B5,B7]);unfold lim;omega,?_⟩;(try refine ev ?_);apply z;exact aR
abbrev Qm:=[0,1,2,3,4,5,11,34]
def CZ(e:Ex)(U:e.Le):Ab Tryz.prog 155 [D6 e] (.d (.slice (Au (Nc e)))):=by
 have h1:=pP e (by have:=U.list;unfold sm;omega);have W:=U.Dr;have a0:=U.list;unfold Nc at*;generalize B3 e=l at*;have L:∀j,(Iy (l.take j)).length<=(Iy l).length:=λj=>by
  conv=>rhs;rw[<-Ue j l,zI,B5]
  omega
 refine cB func155 ?_;refine sR Qm ?_;refine sR Qm ?_;refine A0.pp 3 3 3 rfl<|sC h1 Qm ?_;refine kR Qm λK1 u1=>?_;refine bA (A0.ii l (X:=Unit) (λj _=>[(3,.acc 3),(4,.d (.slice (Ed l))),(5,A6 j)]) (λj _=>[(3,.rows 3 (Au (Iy (l.take j))))]) (λ_ _=>True) () trivial sS (by simp[ble,A9,Iy,Cq]) ?_ ?_)
 rotate_left
 .intro j _ u I Z dp tk V _;have a1:=L j;have E:=L (j+1);rw[tk,zI,show Iy [u]=Wi u by simp[Iy]]at E;rw[tk,zI,show Iy [u]=Wi u by simp[Iy]];rw[B5]at E;generalize Iy (l.take j)=A at*;refine Ag V Qm λJ u2=>?_;refine gI u2 ?_;refine sK λJ u2=>bA ?_;unfold Wi at*;rw[B5]at E;refine sV Qm λK z=>?_;refine ci (Ey I) ?_;refine⟨R3 _,by(try simp only[Cq,B5,B7]);unfold lim;omega,?_⟩;(try refine ev ?_);apply z;by_cases k3:u.kind=3
  .have d3:decide (u.kind=3)=true:=Bn k3;rw[A7 (.inl k3)]at E |-
   refine sV Qm λK z=>?_;refine C0 d3 (Ey I) ?_;apply z;refine eA rfl ?_;(refine lV Qm λK z=>?_;refine ci (Ey I) ?_;refine⟨by simp,by(try simp only[Cq,B5,B7,Bg,Ck]at*);unfold lim;omega,?_⟩;(try refine ev ?_);apply z;try simp only[Aa,Af]);apply u2;(refine lV Qm λK z=>?_;refine cl ?_;apply z;try simp only[Aa,]);exact⟨(),trivial,sS,by simp[ble,A9,Cq,Bf,k3]⟩
  by_cases O:u.kind=5
  .have d5:decide (u.kind=5)=true:=Bn O;rw[A7 (.inr O)]at E |-
   refine sV Qm λK z=>?_;refine C0 k3 (Ey I) ?_;refine C0 d5 (Ey I) ?_;apply z;refine eA rfl ?_;(refine lV Qm λK z=>?_;refine ci (Ey I) ?_;refine⟨by simp,by(try simp only[Cq,B5,B7,Bg,Ck]at*);unfold lim;omega,?_⟩;(try refine ev ?_);apply z;try simp only[Aa,Af]);apply u2;(refine lV Qm λK z=>?_;refine cl ?_;apply z;try simp only[Aa,]);exact⟨(),trivial,sS,by simp[ble,A9,Cq,Bf,O]⟩
  rw[A5 (by rintro(h|h) <;> contradiction),Fv];refine sV Qm λK z=>?_;refine C0 k3 (Ey I) ?_;refine C0 O (Ey I) ?_;apply z;refine dA rfl (cA (u2 _ _ ?_));(refine lV Qm λK z=>?_;refine cl ?_;apply z;try simp only[Aa,]);exact⟨(),trivial,sS,by simp[ble,A9,Cq,k3,O]⟩
 intro _ _;rw[Ca];refine Ag B1 Qm λJ u2=>?_;refine sE ?_;refine u1 _ _<|sR Qm ?_;exact aR
abbrev oC:=[0,1,2,3,4,10,19]
def DX(e:Ex)(U:e.Le):Ab Tryz.prog 76 [D6 e] (Ar (Ku e)):=by
 have h1:=pP e (by have:=U.list;unfold sm;omega);have a0:=U.list;unfold Ku;generalize B3 e=l at*;refine cB func76 ?_;refine sR oC ?_;refine sC h1 oC ?_;refine kR oC λK1 u1=>?_;refine bA (A0.ii l (X:=Unit) (λj _=>[(3,.d (.slice (Ed l))),(4,A6 j)]) (λ_ _=>[]) (λj _=>l.all (λx=>decide (x.targs.length=0))=(l.drop j).all (λx=>decide (x.targs.length=0))) () rfl sS sB ?_ ?_);rotate_left
 .intro j _ u V W Z tk L E;rw[Z,Qa]at E;refine Ag L oC λI u2=>?_;refine gI u2 ?_;refine sK λI u2=>bA ?_;by_cases O:u.targs.length=0
  .have J:¬(u.targs.length:Int) > 0:=by omega
   rw[Bn O,Ch]at E;refine sV oC λK z=>?_;refine C0 J (Ey V) ?_;apply z;refine dA rfl (cA (u2 _ _ ?_));(refine lV oC λK z=>?_;refine cl ?_;apply z;try simp only[Aa,]);exact⟨(),E,sS,sB⟩
  .have J:(u.targs.length:Int) > 0:=by omega
   rw[E,Cb O,C6];refine sV oC λK z=>?_;refine C0 J (Ey V) ?_;apply z;refine eA rfl<|sR oC ?_;exact aR
 intro _ E;rw[Dk,eC]at E;rw[E]at u1 |-;refine Ag B1 oC λI u2=>?_;refine sE ?_;refine u1 _ _<|sR oC ?_;exact aR
abbrev J2:=[0,1,2,3,4,5,6,7,8,13,25,41,57,70]
def G7t(p:Prog)(hp:p.Le):Ab Tryz.prog 75 [Cs p] (.d (.slice (Au (Lj p)))):=by
 have ad:=hp.yC;have a8:=CZ p.main hp.main;have af:=hp.main.Dr;have a9:=sk hp.yC hp.decls;unfold Lj;refine cB func75 ?_;refine sR J2 ?_;refine sR J2 ?_;refine A0.pp 3 3 3 rfl<|kR J2 λK1 u1=>?_;refine bA (A0.ii p.decls (X:=Unit) (λj _=>[(1,.box 1 0),(3,.acc 3),(4,A6 j)]) (λj _=>[(1,.cells ((Ah p).map .d)),(3,.rows 3 (Au (Pd (p.decls.take j))))]) (λ_ _=>True) () trivial sS (by simp[ble,A9,Pd,Cq,Ah]) ?_ ?_)
 rotate_left
 .intro j _ d hd a2 dp tk a4 _;have a7:=a9 j;have I:=hp.decls d a2;have ab:=I.A1;have ae:=I.fields;have ac:=I.xC;have a':=p0 I.xC I.sigs;have a5:=YX d.sig I.sig;have a6:=CZ d.body I.body;have ai:=eI I.sig;have aj:=I.body.Dr;rw[tk];have a1:Pd (p.decls.take j++[d])=Pd (p.decls.take j)++Gs d.A1++H5 d.fields++Lk d.sigs++Rz d:=by simp[Pd,X6]
  rw[a1];generalize Pd (p.decls.take j)=A at*;refine Ag a4 J2 λK2 u2=>?_;refine gI u2 ?_;refine sK λK2 u2=>bA<|sI (E6 hd) [0,1,2,3,4,5,6,7,8,13,25,41,57,70] ?_;refine kR J2 λK3 Z=>?_;refine bA (A0.ii d.A1 (X:=Unit) (λi _=>[(1,.box 1 0),(3,.acc 3),(4,A6 j),(5,.box 5 0),(6,A6 i)]) (λi _=>[(1,.cells ((Ah p).map .d)),(3,.rows 3 (Au (A++Gs (d.A1.take i)))),(5,.cells (Ti d))]) (λ_ _=>True) () trivial sS (by simp[ble,A9,Gs,Cq,Ah]) ?_ ?_)
  rotate_left;intro i _ u hu L W E V _;have a0:=(Az.1 hu).1;rw[E];refine Ag V J2 λO J=>?_;refine gI J ?_;refine sK λO J=>bA ?_;(refine lV J2 λK z=>?_;refine ci (Fm hu) ?_;refine⟨by simp,by(try simp only[Gs,B5,B7,Dh]);unfold lim;omega,?_⟩;(try refine ev ?_);apply z;try simp only[Aa,Af]);refine J _ _ ?_;(refine lV J2 λK z=>?_;refine cl ?_;apply z;try simp only[Aa,]);exact⟨(),trivial,sS,by simp[ble,A9,Cq,Gs,Ah,Bf]⟩;intro _ _;rw[Ca];refine Ag B1 J2 λO J=>?_;refine sE ?_;refine Z _ _ ?_;refine kR J2 λK3 Z=>?_;refine bA (A0.ii d.fields (X:=Unit) (λi _=>[(1,.box 1 0),(3,.acc 3),(4,A6 j),(5,.box 5 0),(7,A6 i)]) (λi _=>[(1,.cells ((Ah p).map .d)),(3,.rows 3 (Au (A++Gs d.A1++H5 (d.fields.take i)))),(5,.cells (Ti d))]) (λ_ _=>True) () trivial sS (by simp[ble,A9,H5,Cq,Ah]) ?_ ?_);rotate_left;intro i _ u hu L W E V _;have a0:=(Az.1 hu).1;rw[E];refine Ag V J2 λO J=>?_;refine gI J ?_;refine sK λO J=>bA ?_;(refine lV J2 λK z=>?_;refine ci (Dt hu) ?_;refine⟨by simp,by(try simp only[Gs,H5,B5,B7,Dh]);unfold lim;omega,?_⟩;(try refine ev ?_);apply z;try simp only[Aa,Af]);refine J _ _ ?_;(refine lV J2 λK z=>?_;refine cl ?_;apply z;try simp only[Aa,]);exact⟨(),trivial,sS,by simp[ble,A9,Cq,H5,Ah,Bf]⟩;intro _ _;rw[Ca];refine Ag B1 J2 λO J=>?_;refine sE ?_;refine Z _ _ ?_;have ah:(A++Gs d.A1++H5 d.fields).length<=2600000004000:=by simp only[Gs,H5,B5,B7];omega
  generalize A++Gs d.A1++H5 d.fields=A2 at*;refine kR J2 λK3 Z=>?_;refine bA (A0.ii d.sigs (X:=Unit) (λi _=>[(1,.box 1 0),(3,.acc 3),(4,A6 j),(5,.box 5 0),(8,A6 i)]) (λi _=>[(1,.cells ((Ah p).map .d)),(3,.rows 3 (Au (A2++Lk (d.sigs.take i)))),(5,.cells (Ti d))]) (λ_ _=>True) () trivial sS (by simp[ble,A9,Lk,Cq,Ah]) ?_ ?_);rotate_left;intro i _ u hu L W E V _;have a0:=(Az.1 hu).1;have ak:=eI (I.sigs u L);have a3:=YX u (I.sigs u L);have ag:=a' i;rw[E,show Lk (d.sigs.take i++[u])=Lk (d.sigs.take i)++Lw u by simp[Lk],<-H3];generalize Lk (d.sigs.take i)=B at*;generalize Lw u=U at*;refine Ag V J2 λO J=>?_;refine gI J ?_;refine sK λO J=>bA ?_;(refine lV J2 λK z=>?_;refine ci (Dg hu) ?_;refine cc a3 ?_;refine⟨R3 _,by(try simp only[B5]);unfold lim;omega,?_⟩;(try refine ev ?_);apply z;try simp only[Aa,Af]);refine J _ _ ?_;(refine lV J2 λK z=>?_;refine cl ?_;apply z;try simp only[Aa,]);exact⟨(),trivial,sS,by simp[ble,A9,Cq,Ah]⟩;intro _ _;rw[Ca];refine Ag B1 J2 λO J=>?_;refine sE ?_;refine Z _ _ ?_;have aa:=XQ I.xC I.sigs;generalize Lk d.sigs=B at*;unfold Rz;by_cases k3:d.kind=3;have d3:=Bn k3;rw[A7 k3];refine Ak d3 J2 ?_;refine eA rfl ?_;refine sV J2 λK z=>?_;refine cc a5 ?_;refine⟨R3 _,by(try simp only[B5]);unfold lim;omega,?_⟩;(try refine ev ?_);apply z;(refine lV J2 λK z=>?_;refine cc a6 ?_;refine⟨R3 _,by(try simp only[Cq,B5,B7]);unfold lim;omega,?_⟩;(try refine ev ?_);apply z;try simp only[Aa,Af]);apply u2;(refine lV J2 λK z=>?_;refine cl ?_;apply z;try simp only[Aa,]);exact⟨(),trivial,sS,by simp[ble,A9,Cq,Ah,Rz,k3]⟩;rw[A5 k3,Fv];refine Ak k3 J2 ?_;refine dA rfl (cA (u2 _ _ ?_));(refine lV J2 λK z=>?_;refine cl ?_;apply z;try simp only[Aa,]);exact⟨(),trivial,sS,by simp[ble,A9,Cq,Ah,Rz,k3]⟩
 intro _ _;rw[Ca];have a7:=WQ hp.yC hp.decls;refine Ag B1 J2 λK2 u2=>?_;refine sE ?_;apply u1;rw[VO];refine sV J2 λK z=>?_;refine cc a8 ?_;refine⟨R3 _,by(try simp only[Cq,B5,B7]);unfold lim;omega,?_⟩;(try refine ev ?_);apply z;exact aR
abbrev Jh:=[0,1,2,3,4,5,6,7,13,22,27,53,58,68]
def F9e(p:Prog)(hp:p.Le)(a5:∀d,d∈p.decls->d.vars.length<=sm):Ab Tryz.prog 28 [Cs p] (Ar (Pp p)):=by
 have h1:=G7t p hp;have a4:=DX p.main hp.main;have a9:=bP hp;have a7:=hp.yC;unfold Pp;generalize Lj p=l at*;refine cB func28 ?_;refine sR Jh ?_;refine sC h1 Jh ?_;refine kR Jh λK1 u1=>?_;refine bA (A0.ii l (X:=Unit) (λj _=>[(1,.box 1 0),(3,.d (.slice (Au l))),(4,A6 j)]) (λ_ _=>[(1,.cells ((Ah p).map .d))]) (λj _=>Ra l=Ra (l.drop j)) () rfl sS (by simp[ble,A9,Ah]) ?_ ?_);rotate_left
 .intro j _ u hu U dp tk a0 E;rw[dp,show Ra (u::l.drop (j+1))=(decide (u.args.length=0) && Ra (l.drop (j+1))) from rfl]at E;refine Ag a0 Jh λJ u2=>?_;refine gI u2 ?_;refine sK λJ u2=>bA ?_;by_cases Z:u.args.length=0
  .have I:¬(u.args.length:Int) > 0:=by omega
   rw[Bn Z,Ch]at E;refine sV Jh λK z=>?_;refine C0 I (Fs hu) ?_;apply z;refine dA rfl (cA (u2 _ _ ?_));(refine lV Jh λK z=>?_;refine cl ?_;apply z;try simp only[Aa,]);exact⟨(),E,sS,by simp[ble,A9,Ah]⟩
  .have I:(u.args.length:Int) > 0:=by omega
   rw[Cb Z,C6]at E;rw[show Ra l=false from E,C6];refine sV Jh λK z=>?_;refine C0 I (Fs hu) ?_;apply z;refine eA rfl<|sR Jh ?_;exact aR
 intro _ E;rw[Dk]at E;rw[show Ra l=true from E,Ch]at u1 |-;refine Ag B1 Jh λJ u2=>?_;refine sE ?_;apply u1;refine kR Jh λK1 u1=>?_;refine bA (A0.ii p.decls (X:=Unit) (λj _=>[(1,.box 1 0),(5,A6 j)]) (λ_ _=>[(1,.cells ((Ah p).map .d))]) (λj _=>p.decls.all Qf=(p.decls.drop j).all Qf) () rfl sS (by simp[ble,A9,Ah]) ?_ ?_)
 rotate_left
 .intro j _ d hd U dp tk a0 E;have V:=hp.decls d U;have hb:=DX d.body V.body;have hf:=V.A1;have hv:=a5 d U;have a6:=V.sig.A1;have a8:=V.xC;rw[dp,Qa]at E;have O:(decide (d.A1.length+d.vars.length+d.sig.A1.length=0) && (Ku d.body && Rm d.sigs))=false->(p.decls.all Qf && Ku p.main)=false:=λh=>by rw[E,show Qf d=false from h];rfl
  have L:(decide (d.A1.length+d.vars.length+d.sig.A1.length=0) && (Ku d.body && Rm d.sigs))=true->p.decls.all Qf=(p.decls.drop (j+1)).all Qf:=λh=>by rw[E,show Qf d=true from h,Ch]
  generalize Ku d.body=be at*;refine Ag a0 Jh λJ u2=>?_;refine gI u2 ?_;refine sK λJ u2=>bA<|sI (E6 hd) [0,1,2,3,4,5,6,7,13,22,27,53,58,68] ?_;refine sK λK3 u3=>?_;by_cases Z:d.A1.length+d.vars.length+d.sig.A1.length=0;rotate_left
  .have I:(d.A1.length:Int)+(d.vars.length:Int)+(d.sig.A1.length:Int) > 0:=by omega
   rw[O (by rw[Cb Z];rfl)]
   (refine sQ Jh λK z=>?_;refine Bb I ?_;refine⟨by first| (unfold B6;omega)| (simp only[B6,sm]at*;omega),?_⟩;(try refine Bb I ?_);refine⟨by first| (unfold B6;omega)| (simp only[B6,sm]at*;omega),?_⟩;(try refine Bb I ?_);apply z)
   refine tI ?_;refine sR Jh ?_;exact aR
  have I:¬(d.A1.length:Int)+(d.vars.length:Int)+(d.sig.A1.length:Int) > 0:=by omega
  rw[Bn Z,Ch]at O L;cases be with
  |false =>rw[O rfl];refine sQ Jh λK z=>?_;refine Bb I ?_;refine⟨by first| (unfold B6;omega)| (simp only[B6,sm,lim]at*;omega),?_⟩;(try refine Bb I ?_);refine⟨by first| (unfold B6;omega)| (simp only[B6,sm,lim]at*;omega),?_⟩;(try refine Bb I ?_);refine cc hb ?_;apply z;refine tI ?_;refine sR Jh ?_;exact aR
  |true =>
   rw[Ch]at O L;refine sQ Jh λK z=>?_;refine Bb I ?_;refine⟨by first| (unfold B6;omega)| (simp only[B6,sm,lim]at*;omega),?_⟩;(try refine Bb I ?_);refine⟨by first| (unfold B6;omega)| (simp only[B6,sm,lim]at*;omega),?_⟩;(try refine Bb I ?_);refine cc hb ?_;apply z;refine kI u3 ?_;refine sR Jh ?_;refine bA (A0.ii d.sigs (X:=Unit) (λi _=>[(1,.box 1 0),(5,A6 j),(6,.box 6 0),(7,A6 i)]) (λ_ _=>[(1,.cells ((Ah p).map .d)),(6,.cells (Ti d))]) (λi _=>Rm d.sigs=Rm (d.sigs.drop i)) () rfl sS (by simp[ble,A9,Ah]) ?_ ?_);rotate_left
   .intro i _ u hu a3 W a2 a1 E;rw[W,show Rm (u::d.sigs.drop (i+1))=(decide (u.A1.length=0) && Rm (d.sigs.drop (i+1))) from rfl]at E;refine Ag a1 Jh λK4 u4=>?_;refine gI u4 ?_;refine sK λK4 u4=>bA ?_;by_cases Z:u.A1.length=0
    .have I:¬(u.A1.length:Int) > 0:=by omega
     rw[Bn Z,Ch]at E;refine sV Jh λK z=>?_;refine C0 I (Dg hu) ?_;apply z;refine dA rfl (cA (u4 _ _ ?_));(refine lV Jh λK z=>?_;refine cl ?_;apply z;try simp only[Aa,]);exact⟨(),E,sS,by simp[ble,A9,Ah]⟩
    .have I:(u.A1.length:Int) > 0:=by omega
     rw[Cb Z,C6]at E;rw[O E];refine sV Jh λK z=>?_;refine C0 I (Dg hu) ?_;apply z;refine eA rfl<|sR Jh ?_;exact aR
   intro _ E;rw[Dk]at E;refine Ag B1 Jh λK4 u4=>?_;refine sE ?_;apply u2;(refine lV Jh λK z=>?_;refine cl ?_;apply z;try simp only[Aa,]);exact⟨(),L E,sS,by simp[ble,A9,Ah]⟩
 intro _ E;rw[Dk,eC]at E;rw[E,Ch]at u1 |-;refine Ag B1 Jh λJ u2=>?_;refine sE ?_;apply u1;refine sC a4 Jh ?_;exact aR
def H3n(p:Prog)(hp:p.Le)(E:p.Sm):Ab Tryz.prog 28 [Cs p] (Ar (Pp p)):=F9e p hp λd hd=>(E.decls.2 d hd).vars.1
def Fz(s:Ao):Nat:=s.types.length+s.calls.length
def nX(s:Ao)(hs:s.Sm):Ab Tryz.prog 20 [Ks s] (A6 (Fz s)):=by
 have J:=hs.types.1;have I:=hs.calls.1;have E:((Fz s:Nat):Int)=(s.types.length:Int)+s.calls.length:=by unfold Fz;omega
 rw[E];refine cB func20 ?_;refine sR [0,1,2] ?_;refine sQ [0,1,2] λK z=>?_;refine Bb @Eb ?_;refine⟨by first| (unfold B6;omega)| (simp only[B6,sm]at*;omega),?_⟩;(try refine Bb @Eb ?_);apply z;exact aR
def X2(s:Ao):Bool:=s.types.any (λt=>decide (60<t.count 0)) ||(s.calls.any (λc=>decide (60<(Ty.mk [] c.targs 0).count 0)) ||(s.Dw ||decide (60<Fz s)))
abbrev Pc:=[0,1,2,3,4,9,18,23,34]
def H2g(s:Ao)(hs:s.Sm):Ab Tryz.prog 21 [Ks s] (Ar (X2 s)):=by
 have h1:=hs.types.1;have h2:=hs.calls.1;have hz:=nX s hs;unfold X2;generalize Fz s=z at*;refine cB func21 ?_;refine sR Pc ?_;refine kR Pc λK1 u1=>?_;refine bA (A0.ii s.types (X:=Unit) (λj _=>[(1,.box 1 0),(3,A6 j)]) (λj _=>[(1,.cells (K9 s))]) (λj _=>s.types.any (λt=>decide (60<t.count 0))=(s.types.drop j).any (λt=>decide (60<t.count 0))) () rfl sS sB ?_ ?_)
 rotate_left
 .intro j _ u Z a0 dp tk U I;have W:=wF u 0 (by decide) (by decide);rw[dp,List.any_cons]at I;generalize u.count 0=k at*;refine Ag U Pc λL u2=>?_;refine gI u2 ?_;refine sK λL u2=>bA ?_;by_cases J:60<k
  .have E:k > 60:=J;rw[I,Bn J,Uz,Uz]
   (refine sV Pc λK z=>?_;refine ci (Fs Z) ?_;refine E0 E W ?_;apply z)
   refine eA rfl<|sR Pc ?_;exact aR
  .have E:¬k > 60:=J;rw[Cb J,Wd]at I
   (refine sV Pc λK z=>?_;refine ci (Fs Z) ?_;refine E0 E W ?_;apply z)
   refine dA rfl (cA (u2 _ _ ?_));refine lT Pc ?_;exact⟨(),I,sS,by simp[ble,A9]⟩
 intro _ I;rw[Dk,List.any_nil]at I;rw[I,Wd]at u1 |-;refine Ag B1 Pc λL u2=>?_;refine sE ?_;apply u1;refine kR Pc λK1 u1=>?_;refine bA (A0.ii s.calls (X:=Unit) (λj _=>[(1,.box 1 0),(4,A6 j)]) (λj _=>[(1,.cells (K9 s))]) (λj _=>s.calls.any (λc=>decide (60<(Ty.mk [] c.targs 0).count 0))=(s.calls.drop j).any (λc=>decide (60<(Ty.mk [] c.targs 0).count 0))) () rfl sS sB ?_ ?_)
 rotate_left
 .intro j _ u Z a0 dp tk U I;have W:=wF (.mk [] u.targs 0) 0 (by decide) (by decide);rw[dp,List.any_cons]at I;generalize(Ty.mk [] u.targs 0).count 0=k at*;refine Dq U @Eb Pc λL u2=>?_;refine gI u2 ?_;refine sK λL u2=>bA ?_;by_cases J:60<k
  .have E:k > 60:=J;rw[I,Bn J,Uz,Uz]
   (refine sV Pc λK z=>?_;refine C0 @Fp.eq_1 (Jw Z) ?_;refine E0 E W ?_;apply z)
   refine eA rfl<|sR Pc ?_;exact aR
  .have E:¬k > 60:=J;rw[Cb J,Wd]at I
   (refine sV Pc λK z=>?_;refine C0 @Fp.eq_1 (Jw Z) ?_;refine E0 E W ?_;apply z)
   refine dA rfl (cA (u2 _ _ ?_));refine lT Pc ?_;exact⟨(),I,sS,by simp[ble,A9]⟩
 intro _ I;rw[Dk,List.any_nil]at I;rw[I,Wd]at u1 |-;refine Dq B1 @Eb Pc λL u2=>?_;refine sE ?_;apply u1;have a1:s=⟨s.types,s.calls,s.Dw⟩:=rfl;cases O:s.Dw with
 |true =>rw[Uz];refine Ak O Pc ?_;exact aR
 |false =>
  rw[Wd];have V:Ab Tryz.prog 20 [.agg [.d (.slice (Au s.types)),.d (.slice (Nt s.calls)),.d (.bool false)]] (A6 z):=by rw[<-O];exact hz
  by_cases J:60<z
  .have E:(z:Int) > 60:=by omega
   rw[Bn J];refine sQ Pc λK z=>?_;refine Bb O ?_;refine E0 E V ?_;apply z;exact aR
  .have E:¬(z:Int) > 60:=by omega
   rw[Cb J];refine sQ Pc λK z=>?_;refine Bb O ?_;refine E0 E V ?_;apply z;exact aR
def fW{α:Type}{cmp:α->α->Int}{x:α}:∀{l:List α} {done:Bool} {out R:List α},Gj cmp x l done out=some R->R.length<=out.length+l.length+(if done=true then 0 else 1)/\∀t,t∈R->t=x\/t∈l\/t∈out
 |[],done,out,R,h=>by rw[Gj]at h;cases h;cases done;simp;intro t ht;rcases ht with h|h <;> simp[h];simp;intro t ht;simp[ht]
 |t::l,done,out,R,h=>by
  rw[Gj]at h;split at h;cases h;split at h
  .obtain⟨J,E⟩:=fW h;refine⟨by clear E;cases done <;> simp_all <;> omega,λu I=>?_⟩;rcases E u I with h3|h3|h3;exact .inl h3;exact .inr (.inl (by simp[h3]));simp only[Bj,Ay,Eh,Eo]at h3;rcases h3 with h3|h3|h3;exact .inr (.inr h3);exact .inl h3;exact .inr (.inl (by simp[h3]))
  .obtain⟨J,E⟩:=fW h;refine⟨by clear E;cases done <;> simp_all <;> omega,λu I=>?_⟩;rcases E u I with h3|h3|h3;exact .inl h3;exact .inr (.inl (by simp[h3]));simp only[Bj,Ay,Eh,Eo]at h3;rcases h3 with h3|h3;exact .inr (.inr h3);exact .inr (.inl (by simp[h3]))
def NG{α:Type}{cmp:α->α->Int}{x:α}(l:List α):(Je cmp l x).length<=l.length+1/\∀t,t∈Je cmp l x->t=x\/t∈l:=by
 unfold Je;cases h:Gj cmp x l false []with
 |none=>exact⟨by simp,λt ht=>.inr ht⟩
 |some R =>obtain⟨I,E⟩:=fW h;refine⟨by simpa using I,λt ht=>?_⟩;rcases E t ht with h3|h3|h3;exact .inl h3;exact .inr h3;simp at h3
def sF{s:Ao}(hs:s.Sm){x:Ty}(I:x.Sm):(Hc s x).Sm:=by unfold Hc;split;exact⟨hs.types,hs.calls⟩;rename_i h;obtain⟨J,E⟩:=NG (cmp:=Er) (x:=x) s.types;refine⟨⟨by simp only;unfold sm;omega,λt ht=>?_⟩,hs.calls⟩;rcases E t ht with rfl|h3;exact I;exact hs.types.2 t h3
def oS{s:Ao}(hs:s.Sm){x:Be}(I:x.Sm):(Hi s x).Sm:=by unfold Hi;split;exact⟨hs.types,hs.calls⟩;rename_i h;obtain⟨J,E⟩:=NG (cmp:=E8) (x:=x) s.calls;refine⟨hs.types,⟨by simp only;unfold sm;omega,λt ht=>?_⟩⟩;rcases E t ht with rfl|h3;exact I;exact hs.calls.2 t h3
def Vi(s:Ao)(e:Ex)(z:Ty × Fw):Ao:=if z.2.bad=true then{ s with Dw:=s.Dw ||z.2.Dw } else Hi (Hc { s with Dw:=s.Dw ||z.2.Dw } z.1) ⟨z.1,e.name,e.targs⟩
def Ls(p:Prog)(vars:List Param)(s:Ao)(e:Ex):Ao:=if e.kind=3\/e.kind=5 then Hc s e.type else if e.kind=2 then(match e.kids with
 |[]=>s
 |v::_=>Vi s e (Da ⟨p,false,[],vars⟩ v))else s
def Pk(p:Prog)(s:Ao)(e:Ex)(vars:List Param):Ao:=(B3 e).foldl (Ls p vars) s
def G6t{s:Ao}(hs:s.Sm){e:Ex}(I:e.Sm){z:Ty × Fw}(J:z.1.Sm):(Vi s e z).Sm:=by unfold Vi;have E:Ao.Sm { s with Dw:=s.Dw ||z.2.Dw }:=⟨hs.types,hs.calls⟩;split;exact E;exact oS (sF E J) ⟨J,I.name,I.targs⟩
def kn{p:Prog}{vars:List Param}(I:Cd.Sm ⟨p,false,[],vars⟩){s:Ao}(hs:s.Sm){e:Ex}(E:e.Sm):(Ls p vars s e).Sm:=by unfold Ls;split;exact sF hs E.type;split;split;exact hs;rename_i v vs J;exact G6t hs E (ML I v (E.kids.2 v (by rw[J];simp)));exact hs
def mS{p:Prog}{vars:List Param}(E:Cd.Sm ⟨p,false,[],vars⟩):∀(l:List Ex) {s:Ao},s.Sm->(∀x,x∈l->x.Sm)->(l.foldl (Ls p vars) s).Sm
 |[],_,hs,_=>hs
 |e::l,_,hs,h=>mS E l (kn E hs (h e (by simp))) λx I=>h x (by simp[I])
abbrev Jr:=[0,1,2,3,4,5,6,8,9,10,11,12,18,34,47,71]
abbrev AB:Ji:=⟨[],[],[11,12],[11,12]⟩
def cd(p:Prog)(vars:List Param)(hc:Cd.Sm ⟨p,false,[],vars⟩)(s:Ao)(hs:s.Sm)(e:Ex)(he:e.Sm)(a9:e.Hs)(hl:(B3 e).length<=sm) :Ab Tryz.prog 19 [Cs p,Ks s,D6 e,.d (.slice (Aw vars))] (Ks (Pk p s e vars)):=by
 have h1:=pP e hl;have a4:=HJ (Q:=λx=>x.Sm/\x.Hs) (λe h x hx=>⟨h.1.kids.2 x hx,h.2.kids x hx⟩) e ⟨he,a9⟩;have hR:∃R,Pk p s e vars=R:=⟨_,rfl⟩;obtain⟨R,hR⟩:=hR;rw[hR];unfold Pk at hR;generalize B3 e=l at*;refine cB func19 ?_;refine sR Jr ?_;refine sC h1 Jr ?_;refine kR Jr λK1 u1=>?_;refine bA (A0.ii l (X:=Ao) (λj s=>[(3,.d (.slice (Aw vars))),(4,.box 4 0),(5,.box 5 0),(6,.box 6 0),(8,.box 8 0),(9,.d (.slice (Ed l))),(10,A6 j)]) (λj s=>[(4,.cells ((Ah p).map .d)),(5,.cells (K9 s)),(6,.cells (exS e)),(8,.cells [.d .nil,.d .nil,.d (.bool false)])]) (λj s=>(l.drop j).foldl (Ls p vars) s=R/\s.Sm) s ⟨hR,hs⟩ sS (by simp[ble,A9,Ah]) ?_ ?_);rotate_left
 .intro j s u J a8 dp tk a' I;obtain⟨I,O⟩:=I;obtain⟨L,a3⟩:=a4 u a8;have E:=kn hc O L;rw[dp,Mt]at I;refine Ag a' Jr λZ u2=>?_;refine gI u2 ?_;refine sK λZ u2=>bA<|sK λK3 u3=>?_;by_cases k3:u.kind=3
  .have d3:decide (u.kind=3)=true:=Bn k3;have n2:¬u.kind=2:=by omega
   have U:=MI s O u.type L.type;have V:Ls p vars s u=Hc s u.type:=by unfold Ls;rw[A7 (.inl k3)]
   rw[V]at I E;generalize Hc s u.type=s2 at*
   (refine sV Jr λK z=>?_;refine C0 d3 (Ey J) ?_;apply z)
   refine eA rfl ?_
   (refine lG Jr [] 6 [] λK z=>?_;refine ev ?_;refine ci (Ey J) ?_;refine cc U ?_;apply z;try simp only[Aa,])
   apply u3
   (refine sV Jr λK z=>?_;refine C0 n2 (Ey J) ?_;apply z)
   refine dA rfl (cA (u2 _ _ ?_));refine lT Jr ?_;exact⟨s2,⟨I,E⟩,sS,by simp[ble,A9,Ah]⟩
  by_cases k5:u.kind=5
  .have d5:decide (u.kind=5)=true:=Bn k5;have n2:¬u.kind=2:=by omega
   have U:=MI s O u.type L.type;have V:Ls p vars s u=Hc s u.type:=by unfold Ls;rw[A7 (.inr k5)]
   rw[V]at I E;generalize Hc s u.type=s2 at*
   (refine sV Jr λK z=>?_;refine C0 k3 (Ey J) ?_;refine C0 d5 (Ey J) ?_;apply z)
   refine eA rfl ?_
   (refine lG Jr [] 6 [] λK z=>?_;refine ev ?_;refine ci (Ey J) ?_;refine cc U ?_;apply z;try simp only[Aa,])
   apply u3
   (refine sV Jr λK z=>?_;refine C0 n2 (Ey J) ?_;apply z)
   refine dA rfl (cA (u2 _ _ ?_));refine lT Jr ?_;exact⟨s2,⟨I,E⟩,sS,by simp[ble,A9,Ah]⟩
  (refine sV Jr λK z=>?_;refine C0 k3 (Ey J) ?_;refine C0 k5 (Ey J) ?_;apply z)
  refine dA rfl (cA (u3 _ _ ?_));by_cases k2:u.kind=2;rotate_left
  .have V:Ls p vars s u=s:=by unfold Ls;rw[A5 (by omega),A5 k2]
   rw[V]at I
   (refine sV Jr λK z=>?_;refine C0 k2 (Ey J) ?_;apply z)
   refine dA rfl (cA (u2 _ _ ?_));refine lT Jr ?_;exact⟨s,⟨I,O⟩,sS,by simp[ble,A9,Ah]⟩
  have d2:decide (u.kind=2)=true:=Bn k2;obtain⟨v,hv⟩:=a3.some (.inl k2);have a5:=L.kids.2 v (Bs hv);have hT:=uS ⟨p,false,[],vars⟩ hc v a5;have W:=ML hc v a5;have V:Ls p vars s u=Vi s u (Da ⟨p,false,[],vars⟩ v):=by
   unfold Ls;rw[A5 (by omega),A7 k2];cases hk:u.kids with
   |nil=>rw[hk]at hv;cases hv
   |cons y r=>rw[hk]at hv;cases hv;rfl
  rw[V]at I E;generalize Da ⟨p,false,[],vars⟩ v=z at*;obtain⟨x,⟨q,b,lg⟩⟩:=z;simp only at W;obtain⟨ts,cs,a0⟩:=s;have a6:Ao.Sm ⟨ts,cs,a0 ||lg⟩:=⟨O.types,O.calls⟩;have a1:=MI _ a6 x W;have a7:=sF a6 W;have a2:=oe _ a7 ⟨x,u.name,u.targs⟩ ⟨W,L.name,L.targs⟩;unfold Vi at I E;simp only at I E
  (refine sV Jr λK z=>?_;refine C0 d2 (Ey J) ?_;apply z)
  refine eA rfl ?_
  (refine sG Jr [] 17 [AB,AB,AB,AB,AB,AB,AB,AB,AB,AB,AB,AB,AB,AB,⟨[11],[11],[12],[12]⟩,⟨[12],[12],[11],[11]⟩,⟨[11],[],[],[]⟩] λK z=>?_;refine ev ?_;refine ci (Ey J) ?_;refine cj (Ey hv) ?_;refine cc hT ?_;apply z)
  cases b with
  |true =>
   rw[A7 rfl]at I E;cases a0 <;> (
    refine sR Jr ?_;refine sR Jr ?_;refine dA rfl (cA (u2 _ _ ?_));refine lT Jr ?_;exact⟨_,⟨I,E⟩,sS,by simp[ble,A9,Ah]⟩)
  |false =>
   rw[A5 (by simp)]at I E;cases a0 <;> (
    simp only[Uz,Wd]at I E a1 a2;generalize Hc _ x=s3 at*;generalize Hi s3 _=s4 at*;refine sR Jr ?_;refine sR Jr ?_;refine eA rfl ?_
    (refine lG Jr [] 15 [] λK z=>?_;refine ev ?_;refine cc a1 ?_;refine ci (Ey J) ?_;refine ci (Ey J) ?_;refine cc a2 ?_;apply z;try simp only[Aa,Af])
    apply u2;refine lT Jr ?_;exact⟨_,⟨I,E⟩,sS,by simp[ble,A9,Ah]⟩)
 intro s' I;obtain⟨I,_⟩:=I;rw[Dk,Xq]at I;subst I;refine Ag B1 Jr λZ u2=>?_;refine sE ?_;refine u1 _ _<|sR Jr ?_;exact aR
def Jv(d:Decl):List A3:=d.vars++Ad d.sig.A1
def Ia(x:Ty)(c:Be):List Ty:=x.args++c.targs
def Sp(p:Prog)(d:Decl)(x:Ty)(c:Be):List Param:=(Hv p false d).vars.map (Param.subst (Jv d) (Ia x c))
def M4(d:Decl)(x:Ty)(c:Be):Ex:=d.body.subst (Jv d) (Ia x c)
def Rk(p:Prog)(s:Ao)(x:Ty)(c:Be):Ao:=if Ld p x c.name<0 then s else match p.decls[(Ld p x c.name).toNat]? with
 |none=>s
 |some d=>Pk p s (M4 d x c) (Sp p d x c)
mutual
theorem wV(v:List A3)(a:List Ty):∀e:Ex,(B3 (e.subst v a)).length=(B3 e).length
 |.mk k n t l ks q=>by rw[MD,B3,B3];have:(Ex.mk k n t l ks q).kids=ks:=rfl;rw[this,Bg,Bg,wc v a ks]
theorem wc(v:List A3)(a:List Ty):∀l:List Ex,(Cx (l.map (Ex.subst v a))).length=(Cx l).length
 |[]=>rfl
 |e::l=>by rw[Cj,Cx,Cx,B5,B5,wV v a e,wc v a l]
end
def rp(p:Prog)(x:Ty)(m:A3):Ld p x m<0\/∃(j:Nat)(d:Decl),Ld p x m=j/\p.decls[j]?=some d/\d.kind=3:=by unfold Ld;split;rcases My (E2 x.name m) p.decls with⟨E,_⟩|⟨j,d,E,J,I⟩;left;unfold N4;rw[E];split;rw[A5 (by omega)];decide;decide;unfold N4;rw[E,Ic,J];simp only;split;refine .inr ⟨j,d,rfl,J,?_⟩;simp only[E2,Bh,Di]at I;exact I.1.1;exact .inl (by decide);exact .inl (by decide)
def fL{x:Ty}{c:Be}(J:x.Sm)(E:c.Sm):∀u,u∈Ia x c->u.Sm:=λu I=>(Bj.1 I).elim (J.arg u) (E.targs.2 u)
def rZ{p:Prog}(h:p.Fit){d:Decl}(hd:d∈p.decls){x:Ty}{c:Be}(J:x.Sm)(E:c.Sm):Cd.Sm ⟨p,false,[],Sp p d x c⟩:=by have hs:=UN h.sm false (h.sm.decls.2 d hd) (h.two d hd) (h.par d hd);refine⟨h.sm,by simp,by simp,by simp only[Sp,B7];exact hs.vl,λf I=>?_⟩;obtain⟨g,L,rfl⟩:=Ap.1 I;have:=hs.vars g L;exact⟨this.name,this.type.subst (fL J E)⟩
def H6z{p:Prog}(h:p.Fit){s:Ao}(hs:s.Sm){x:Ty}{c:Be}(I:x.Sm)(J:c.Sm):(Rk p s x c).Sm:=by unfold Rk;split;exact hs;split;exact hs;rename_i d hd;have E:=Bs hd;refine mS (rZ h E I J) _ hs λy L=>?_;exact HJ (Q:=Ex.Sm) (λe h x I=>h.kids.2 x I) _ (Ex.Sm.subst (fL I J) _ (h.sm.decls.2 d E).body) y L
abbrev P9:=[0,1,2,3,4,5,6,7,8,9,10,11,12,13,14,15,16,23,30,39,53]
abbrev PK:Ji:=⟨[],[],[30],[30]⟩
abbrev wN:Ji:=⟨[],[],[39],[39]⟩
def su(p:Prog)(h:p.Fit)(a9:p.Le)(a0:∀d,d∈p.decls->d.kind=3->d.body.Hs)(s:Ao)(hs:s.Sm)(x:Ty)(W:x.Sm)(c:Be)(U:c.Sm) :Ab Tryz.prog 56 [Cs p,Ks s,Ba x,caV c] (Ks (Rk p s x c)):=by
 have a3:=h.sm.decls.1;have hm:=wT p a3 x c.name;have J:=rp p x c.name;unfold Rk;by_cases O:Ld p x c.name<0;rw[A7 O];generalize Ld p x c.name=i at*;refine cB func56 ?_;refine sR P9 ?_;refine sC hm P9 ?_;refine Ag O P9 λK1 u1=>?_;refine tI ?_;refine sR P9 ?_;exact aR
 .rw[A5 O];obtain⟨j,d,hj,hd,hk⟩:=J.resolve_left O;have E:=Bs hd;have I:=h.sm.decls.2 d E;rw[hj]at hm O |-;rw[Ic,hd];simp only;have ae:=I.vars.1;have a5:=I.sig.A1.1;have aa:=W.len;have ac:=U.targs.1;have hn:=Ss d.sig.A1 a5;have a6:=XW p h.sm false d I (h.two d E) (h.par d E);have L:=UN h.sm false I (h.two d E) (h.par d E);have hS:=λt ht=>Qw (Jv d) (Ia x c) (fL W U) t ht;have hb:=lq (Jv d) (Ia x c) (fL W U) d.body I.body;have hN:=cd p (Sp p d x c) (rZ h E W U) s hs (M4 d x c) (Ex.Sm.subst (fL W U) _ I.body) ((a0 d E hk).subst _ _) (by unfold M4;rw[wV];have:=(a9.decls d E).body.list;unfold sm;omega)
  have a1:Bq (Jv d)=Bq d.vars++Bq (d.sig.A1.map (·.name)):=by simp[Jv,Bq,Ad]
  have a8:Au (Ia x c)=Au x.args++Au c.targs:=by simp[Ia,Cq]
  have a':=L.vl;have a7:=L.vars;unfold Sp M4 at*;generalize Pk p s (d.body.subst (Jv d) (Ia x c)) ((Hv p false d).vars.map (Param.subst (Jv d) (Ia x c)))=R at*;generalize ab:Jv d=NN at*;generalize ad:Ia x c=AA at*;generalize Hv p false d=sc at*;refine cB func56 ?_;refine sR P9 ?_;refine sC hm P9 ?_;refine Ag O P9 λK1 u1=>?_;refine kI u1 ?_;refine sI (E6 hd) [0,1,2,3,4,5,6,7,8,9,10,11,12,13,14,15,16,23,30,39,53] ?_;refine sG P9 [30] 7 [⟨[30],[30],[],[]⟩,PK,PK,⟨[30],[30],[],[]⟩,PK,PK,PK] λK z=>?_;refine ev ?_;refine⟨LD _,by(try simp only[Bq,B7,Ck]);unfold lim sm at*;omega,?_⟩;(try refine ev ?_);refine cc hn ?_;refine⟨LD _,by(try simp only[B7]);unfold lim sm at*;omega,?_⟩;(try refine ev ?_);apply z;refine sG P9 [39] 6 [⟨[39],[39],[],[]⟩,wN,wN,⟨[39],[39],[],[]⟩,wN,wN] λK z=>?_;refine ev ?_;refine⟨R3 _,by(try simp only[Cq,B7,Ck]);unfold lim sm at*;omega,?_⟩;(try refine ev ?_);refine⟨R3 _,by(try simp only[Cq,B5,B7,Ck]);unfold lim sm at*;omega,?_⟩;(try refine ev ?_);apply z;rw[<-a1,<-a8];refine A0.Km 30 rfl ?_;refine A0.Km 39 rfl (wk [(4,.box 4 0),(5,.box 5 0),(8,.box 8 0),(10,.box 10 0),(11,Cm NN),(12,Cv AA)] [(4,.cells ((Ah p).map .d)),(5,.cells (K9 s)),(8,.cells [.d .nil,.d .nil,.d (.bool false)]),(10,.cells (Ti d))] ?_);refine sC a6 P9 ?_;refine sR P9 ?_;refine A0.pp 14 5 14 rfl<|kR P9 λK1 u1=>?_;refine bA (A0.ii sc.vars (X:=Unit) (λj _=>[(4,.box 4 0),(5,.box 5 0),(8,.box 8 0),(10,.box 10 0),(11,Cm NN),(12,Cv AA),(13,.box 13 0),(14,.acc 14),(15,A6 j)]) (λj _=>[(4,.cells ((Ah p).map .d)),(5,.cells (K9 s)),(8,.cells [.d .nil,.d .nil,.d (.bool false)]),(10,.cells (Ti d)),(13,.cells ((Fb sc).map .d)),(14,.rows 5 (Aw ((sc.vars.take j).map (Param.subst NN AA))))]) (λ_ _=>True) () trivial sS (by simp[ble,A9,Ah,Fb,Aw]) ?_ ?_)
  rotate_left
  .intro j _ v hv Z dp tk a2 _;have af:=(Az.1 hv).1;have a4:=hS v.type (a7 v Z).type;rw[tk];refine Dq a2 @Fb.eq_1 P9 λV u2=>?_;refine gI u2 ?_;refine sK λV u2=>bA<|sI (Dt hv) [0,1,2,3,4,5,6,7,8,9,10,11,12,13,14,15,16,23,30,39,53] ?_;refine sC a4 P9 ?_
   (refine lV P9 λK z=>?_;refine⟨by simp,by(try simp only[B7,Dh]);unfold lim sm at*;omega,?_⟩;(try refine ev ?_);apply z;try simp only[Aa,Af]);apply u2;refine lT P9 ?_;exact⟨(),trivial,sS,by simp[ble,A9,Ah,Fb,Aw,G9,Param.subst]⟩
  intro _ _;rw[Ca];refine Dq B1 @Fb.eq_1 P9 λV u2=>?_;refine sE ?_;apply u1;refine A0.Km 14 rfl (wk [(4,.box 4 0),(5,.box 5 0),(8,.box 8 0),(10,.box 10 0),(11,Cm NN),(12,Cv AA),(14,.d (.slice (Aw (sc.vars.map (Param.subst NN AA)))))] [(4,.cells ((Ah p).map .d)),(5,.cells (K9 s)),(8,.cells [.d .nil,.d .nil,.d (.bool false)]),(10,.cells (Ti d))] ?_);refine sG P9 [] 8 [] λK z=>?_;refine ev ?_;refine cc hb ?_;refine cc hN ?_;apply z;exact aR
def L2(s:Ao)(l:List Ty):Ao:=l.foldl Hc s
def Pq(p:Prog)(x:Ty)(c:Be):Option A4:=if Fo (C3 p [] x) c.name<0 then none else match(C3 p [] x)[(Fo (C3 p [] x) c.name).toNat]? with
 |none=>none
 |some g=>if g.A1.length=c.targs.length/\Cr p [] x c.on=true then some g else none
def Q0(g:A4)(c:Be):List Ty:=g.params.map λq=>q.type.subst (Ad g.A1) c.targs
def T1(g:A4)(c:Be):Ty:=g.result.subst (Ad g.A1) c.targs
def M1(p:Prog)(x:Ty)(out:Ao)(c:Be):Ao:=match Pq p x c with
 |none=>out
 |some g=>Rk p (Hc (L2 out (Q0 g c)) (T1 g c)) x c
def Ri(p:Prog)(s out:Ao)(x:Ty):Ao:=s.calls.foldl (M1 p x) (if B9 p x 1=true then L2 out ((Bc p x).map (·.type))else out)
def Me(p:Prog)(s:Ao):Ao:=s.types.foldl (Ri p s) s
def qT:∀(l:List Ty) {s:Ao},s.Sm->(∀t,t∈l->t.Sm)->(L2 s l).Sm
 |[],_,hs,_=>hs
 |t::l,_,hs,h=>qT l (sF hs (h t (by simp))) λu E=>h u (by simp[E])
def e7{p:Prog}(h:p.Fit){x:Ty}(U:x.Sm){out:Ao}(O:out.Sm){c:Be}(J:c.Sm):(M1 p x out c).Sm:=by
 unfold M1;split;exact O
 .rename_i g E;have I:g.Sm:=by unfold Pq at E;split at E;cases E;split at E;cases E;rename_i W L;split at E;cases E;exact qC h.sm (by simp) U _ (Bs L);cases E
  refine H6z h (sF (qT _ O λt ht=>?_) (I.result.subst J.targs.2)) U J;obtain⟨q,V,rfl⟩:=Ap.1 ht;exact(I.params.2 q V).type.subst J.targs.2
def zT{α:Type}{f:Ao->α->Ao}:∀(l:List α) {s:Ao},(∀s a,a∈l->s.Sm->(f s a).Sm)->s.Sm->(l.foldl f s).Sm
 |[],_,_,hs=>hs
 |a::l,_,h,hs=>zT l (λs b E=>h s b (by simp[E])) (h _ a (by simp) hs)
def s7{p:Prog}(h:p.Fit){s:Ao}(hs:s.Sm){x:Ty}(J:x.Sm){out:Ao}(I:out.Sm):(Ri p s out x).Sm:=by refine zT _ (λU c O E=>e7 h J E (hs.calls.2 c O)) ?_;split;refine qT _ I λt ht=>?_;obtain⟨f,L,rfl⟩:=Ap.1 ht;exact(wH h.sm J f L).type;exact I
def np{p:Prog}(h:p.Fit){s:Ao}(hs:s.Sm):(Me p s).Sm:=zT _ (λJ x I E=>s7 h hs (hs.types.2 x I) E) hs
abbrev z38:Ax:=.cells [.d .nil,.d .nil,.d (.bool false)]
abbrev Gr:=[0,1,2,3,4,5,6,7,8,9,10,11,12,13,14,15,21,31,38,55,88,102]
def F8s(p:Prog)(h:p.Fit)(b2:p.Le)(ap:∀d,d∈p.decls->d.kind=3->d.body.Hs)(s:Ao)(hs:s.Sm):Ab Tryz.prog 22 [Cs p,Ks s] (Ks (Me p s)):=by
 have b7:=hs.types.1;have b6:=hs.calls.1;generalize hR:Me p s=R;unfold Me at hR;refine cB func22 ?_;refine sR Gr ?_;refine sR Gr ?_;refine kR Gr λK1 u1=>?_;refine bA (A0.ii s.types (X:=Ao) (λj out=>[(2,.box 2 0),(3,.box 3 0),(4,.box 4 0),(5,.box 5 0),(6,A6 j)]) (λj out=>[(2,.cells ((Ah p).map .d)),(3,.cells (K9 s)),(4,z38),(5,.cells (K9 out))]) (λj out=>(s.types.drop j).foldl (Ri p s) out=R/\out.Sm) s ⟨hR,hs⟩ sS (by simp[ble,A9,Ah]) ?_ ?_);rotate_left
 .intro j out x b4 am dp tk aq hI;obtain⟨hI,ho⟩:=hI;have hx:=hs.types.2 x am;have b0:=s7 h hs hx ho;rw[dp,Mt]at hI;have a8:=aG p x 1;have a9:=AH p h.sm [] (by simp) (by simp) x hx;simp only[show Ai ([]:List Aj)=[] from rfl]at a9;have az:=W0 h.sm [] x;have ar:=qC h.sm (env:=[]) (by simp) hx;refine Ag aq Gr λK2 u2=>?_;refine gI u2 ?_;refine sK λK2 u2=>bA<|sI (Fs b4) [0,1,2,3,4,5,6,7,8,9,10,11,12,13,14,15,21,31,38,55,88,102] ?_;refine xB λK3 u3 af=>?_;have key:∀o1:Ao,o1.Sm->s.calls.foldl (M1 p x) o1=Ri p s out x->K3 [(2,.box 2 0),(3,.box 3 0),(4,.box 4 0),(5,.box 5 0),(6,A6 j),(7,.box 7 0)] [(2,.cells ((Ah p).map .d)),(3,.cells (K9 s)),(4,z38),(5,.cells (K9 o1)),(7,.cells (Pt x))]:=by
   intro o1 b1 hT;apply u3;refine sC a9 Gr ?_;generalize ag:C3 p [] x=set at*;refine sR Gr ?_;refine bA (A0.ii s.calls (X:=Ao) (λk o=>[(2,.box 2 0),(3,.box 3 0),(4,.box 4 0),(5,.box 5 0),(6,A6 j),(7,.box 7 0),(10,.d (.slice (B4 set))),(11,A6 k)]) (λk o=>[(2,.cells ((Ah p).map .d)),(3,.cells (K9 s)),(4,z38),(5,.cells (K9 o)),(7,.cells (Pt x))]) (λk o=>(s.calls.drop k).foldl (M1 p x) o=Ri p s out x/\o.Sm) o1 ⟨hT,b1⟩ sS (by simp[ble,A9,Ah]) ?_ ?_);intro o I;obtain⟨I,ae⟩:=I;rw[Dk,Xq]at I;subst I;refine Dq B1 @Eb Gr λK4 u4=>?_;refine sE ?_;apply u2;refine lT Gr ?_;exact⟨_,⟨hI,b0⟩,sS,by simp[ble,A9,Ah]⟩
   .intro k o c b3 ab a7 ao ai I;obtain⟨I,ae⟩:=I;rw[a7,Mt]at I;have hc:=hs.calls.2 c ab;have U:=e7 h hx ae hc;have hf:=GL set c.name az;have a0:=nJ p h.sm [] (by simp) (by simp) x c.on hx hc.on;simp only[show Ai ([]:List Aj)=[] from rfl]at a0;have J:Pq p x c=if Fo set c.name<0 then none else match set[(Fo set c.name).toNat]? with|none=>none|some g=>if g.A1.length=c.targs.length/\Cr p [] x c.on=true then some g else none:=by unfold Pq;rw[ag]
    refine Dq ai @Eb Gr λK4 u4=>?_;refine gI u4 ?_;refine xB λK4 u4 a4=>bA ?_
    (refine sV Gr λK z=>?_;refine C0 @Fp.eq_1 (Jw b3) ?_;apply z)
    have skip:Pq p x c=none->K4 [(2,.box 2 0),(3,.box 3 0),(4,.box 4 0),(5,.box 5 0),(6,A6 j),(7,.box 7 0),(10,.d (.slice (B4 set))),(11,A6 k)] [(2,.cells ((Ah p).map .d)),(3,.cells (K9 s)),(4,z38),(5,.cells (K9 o)),(7,.cells (Pt x))]:=by
     intro hn;have ad:M1 p x o c=o:=by unfold M1;rw[hn]
     rw[ad]at I U;refine u4 _ _<|lT Gr ?_;exact⟨o,⟨I,U⟩,sS,by simp[ble,A9,Ah]⟩
    unfold Fo at J;rcases My (λs:A4=>decide (s.name=c.name)) set with⟨h1,_⟩|⟨n,g,h1,h2,_⟩
    .rw[h1]at J hf;rw[A7 (by decide)]at J;refine sC hf Gr<|sK λK5 u5=>?_;refine dR Gr 19 ?_;refine eA rfl (lA ?_);simp only[Aa,Af,Av];exact a4 sS (by simp[ble,A9,Ah]) (skip J)
    have a5:¬(n:Int)<0:=by omega
    have a3:=ar g (Bs h2);rw[h1]at J hf;rw[A5 a5,Ic,h2]at J;simp only at J;by_cases ah:g.A1.length=c.targs.length;rotate_left
    .rw[A5 λhh=>ah hh.1]at J;have Z:¬(g.A1.length:Int)=(c.targs.length:Int):=by omega
     refine sC hf Gr<|sK λK5 u5=>?_
     (refine sG Gr [] 19 [] λK z=>?_;refine Bb a5 ?_;refine C0 Z (Dg h2) ?_;apply z)
     refine eA rfl (lA ?_);simp only[Aa,Af,Av];exact a4 sS (by simp[ble,A9,Ah]) (skip J)
    have Z:(g.A1.length:Int)=(c.targs.length:Int):=by omega
    cases hb:Cr p [] x c.on with
    |false =>
     rw[hb]at a0;rw[A5 λhh=>by rw[hb]at hh;cases hh.2]at J;refine sC hf Gr<|sK λK5 u5=>?_
     refine sG Gr [] 19 [] λK z=>?_;refine Bb a5 ?_;refine C0 Z (Dg h2) ?_;refine cc a0 ?_;apply z;refine eA rfl (lA ?_);simp only[Aa,Af,Av];exact a4 sS (by simp[ble,A9,Ah]) (skip J)
    |true =>
     rw[hb]at a0;rw[A7 ⟨ah,hb⟩]at J;have ad:M1 p x o c=Rk p (Hc (L2 o (Q0 g c)) (T1 g c)) x c:=by unfold M1;rw[J]
     rw[ad]at I U;have ak:=Ss g.A1 a3.A1.1;rw[show g.A1.map (λx=>x.name)=Ad g.A1 from rfl]at ak;have b5:=a3.params.1;have aa:=λt ht=>Qw (Ad g.A1) c.targs hc.targs.2 t ht;have a':=a3.result.subst (vars:=Ad g.A1) hc.targs.2;refine sC hf Gr<|sK λK5 u5=>?_
     refine sG Gr [] 19 [] λK z=>?_;refine Bb a5 ?_;refine C0 Z (Dg h2) ?_;refine cc a0 ?_;apply z;refine kI u5 ?_;refine sV Gr λK z=>?_;refine ci (Dg h2) ?_;refine cc ak ?_;apply z;refine kR Gr λK5 u5=>?_;refine bA (A0.ii g.params (X:=Ao) (λi q=>[(2,.box 2 0),(3,.box 3 0),(4,.box 4 0),(5,.box 5 0),(6,A6 j),(7,.box 7 0),(10,.d (.slice (B4 set))),(11,A6 k),(12,.box 12 0),(13,A6 n),(14,Cm (Ad g.A1)),(15,A6 i)]) (λi q=>[(2,.cells ((Ah p).map .d)),(3,.cells (K9 s)),(4,z38),(5,.cells (K9 q)),(7,.cells (Pt x)),(12,.cells (caS c))]) (λi q=>L2 q ((g.params.drop i).map λq=>q.type.subst (Ad g.A1) c.targs)=L2 o (Q0 g c)/\q.Sm) o ⟨rfl,ae⟩ sS (by simp[ble,A9,Ah]) ?_ ?_);rotate_left;intro i q v ac V L a6 a1 E;obtain⟨E,hq⟩:=E;have hv:=a3.params.2 v V;have aw:=aa v.type hv.type;have aj:=hv.type.subst (vars:=Ad g.A1) hc.targs.2;have O:=MI q hq _ aj;have a2:=sF hq aj;rw[L,Cj]at E;unfold L2 at E;rw[Mt]at E;generalize v.type.subst (Ad g.A1) c.targs=vt at*;generalize Hc q vt=q2 at*;refine sK λK6 W=>?_;refine sV Gr λK z=>?_;refine C0 a1 (Dg h2) ?_;apply z;refine gI W ?_;refine sK λK6 W=>bA ?_;(refine lG Gr [] 14 [] λK z=>?_;refine ev ?_;refine ci (Dg h2) ?_;refine ci (Dt ac) ?_;refine cc aw ?_;refine cc O ?_;apply z;try simp only[Aa,Af]);refine W _ _ ?_;refine lT Gr ?_;exact⟨q2,⟨E,a2⟩,sS,by simp[ble,A9,Ah]⟩;intro q E;obtain⟨E,hq⟩:=E;rw[Dk,G5]at E;rw[<-E]at I U;rw[show L2 q []=q from rfl]at I U;have O:=MI q hq _ a';have a2:=sF hq a';have au:=aa g.result a3.result;unfold T1 at I U;generalize g.result.subst (Ad g.A1) c.targs=rt at*;have av:=su p h b2 ap _ a2 x hx c hc;generalize Hc q rt=q2 at*;generalize Rk p q2 x c=q3 at*;refine sK λK6 W=>?_;refine sV Gr λK z=>?_;refine C0 B1 (Dg h2) ?_;apply z;refine sE ?_;apply u5;refine sG Gr [] 10 [] λK z=>?_;refine ev ?_;refine ci (Dg h2) ?_;refine cc au ?_;refine cc O ?_;apply z;(refine lV Gr λK z=>?_;refine cc av ?_;apply z;try simp only[Aa,Af]);apply u4;refine lT Gr ?_;exact⟨q3,⟨I,U⟩,sS,by simp[ble,A9,Ah]⟩
  cases hi:B9 p x 1 with
  |false =>
   rw[hi]at a8;have hT:s.calls.foldl (M1 p x) out=Ri p s out x:=by unfold Ri;rw[hi];rfl
   refine sC a8 Gr ?_;refine dA rfl (cA (af sS (by simp[ble,A9,Ah]) (key out ho hT)))
  |true =>
   rw[hi]at a8;have hT:s.calls.foldl (M1 p x) (L2 out ((Bc p x).map (·.type)))=Ri p s out x:=by unfold Ri;rw[hi];rfl
   have ax:=RP p h.sm x hx hi;have b8:=NJ h.sm x;have ay:=wH h.sm hx;generalize Bc p x=fl at*;refine sC a8 Gr ?_;refine eA rfl<|sC ax Gr ?_;refine sR Gr ?_;refine bA (A0.ii fl (X:=Ao) (λi q=>[(2,.box 2 0),(3,.box 3 0),(4,.box 4 0),(5,.box 5 0),(6,A6 j),(7,.box 7 0),(8,.d (.slice (Aw fl))),(9,A6 i)]) (λi q=>[(2,.cells ((Ah p).map .d)),(3,.cells (K9 s)),(4,z38),(5,.cells (K9 q)),(7,.cells (Pt x))]) (λi q=>L2 q ((fl.drop i).map (·.type))=L2 out (fl.map (·.type))/\q.Sm) out ⟨rfl,ho⟩ sS (by simp[ble,A9,Ah]) ?_ ?_)
   rotate_left;intro i q v ac V L a6 a1 E;obtain⟨E,hq⟩:=E;have hv:=(ay v V).type;have O:=MI q hq _ hv;have a2:=sF hq hv;rw[L,Cj]at E;unfold L2 at E;rw[Mt]at E;generalize Hc q v.type=q2 at*;refine Ag a1 Gr λK6 W=>?_;refine gI W ?_;refine sK λK6 W=>bA ?_;(refine lG Gr [] 6 [] λK z=>?_;refine ev ?_;refine ci (Dt ac) ?_;refine cc O ?_;apply z;try simp only[Aa,Af]);refine W _ _ ?_;refine lT Gr ?_;exact⟨q2,⟨E,a2⟩,sS,by simp[ble,A9,Ah]⟩;intro q E;obtain⟨E,hq⟩:=E;rw[Dk,G5]at E;rw[<-E]at hT;refine Ag B1 Gr λK6 W=>?_;refine sE ?_;exact af sS (by simp[ble,A9,Ah]) (key q hq hT)
 intro out hI;obtain⟨hI,_⟩:=hI;rw[Dk,Xq]at hI;subst hI;refine Ag B1 Gr λK2 u2=>?_;refine sE ?_;refine u1 _ _<|sR Gr ?_;exact aR
abbrev Um:Ao:=⟨[],[],false⟩
def Ir(p:Prog):Nat->Ao->Int->Ao × Bool
 |0,_,_=>(Um,false)
 |k+1,s,n=>if n=Fz s then(if X2 s=true then(Um,false)else(s,true))else if X2 s=true then(Um,false)else Ir p k (Me p s) (Fz s)
def Li(p:Prog):Ao × Bool:=Ir p 64 (Pk p Um p.main []) (-1)
def q9{α:Type}{cmp:α->α->Int}{x:α}:∀{l:List α} {done:Bool} {out R:List α},Gj cmp x l done out=some R->out.length+l.length<=R.length
 |[],done,out,R,h=>by rw[Gj]at h;cases h;cases done <;> simp
 |t::l,done,out,R,h=>by rw[Gj]at h;split at h;cases h;split at h <;> (have:=q9 h;simp at this |-;omega)
def za{α:Type}{cmp:α->α->Int}{x:α}(l:List α):l.length<=(Je cmp l x).length:=by
 unfold Je;cases h:Gj cmp x l false []with
 |none=>exact Bv _
 |some R=>have:=q9 h;simpa using this
def OM(s:Ao)(x:Ty):Fz s<=Fz (Hc s x):=by unfold Hc;split;exact Bv _;have:=za (cmp:=Er) (x:=x) s.types;simp only[Fz];omega
def bX(s:Ao)(x:Be):Fz s<=Fz (Hi s x):=by unfold Hi;split;exact Bv _;have:=za (cmp:=E8) (x:=x) s.calls;simp only[Fz];omega
def wL{α:Type}{f:Ao->α->Ao}(h:∀s a,Fz s<=Fz (f s a)):∀(l:List α)(s:Ao),Fz s<=Fz (l.foldl f s)
 |[],_=>Bv _
 |a::l,s=>Cy (h s a) (wL h l _)
def F5o(p:Prog)(s:Ao)(e:Ex)(vars:List Param):Fz s<=Fz (Pk p s e vars):=by
 refine wL (λs e=>?_) _ _;have E:∀z,Fz s<=Fz (Vi s e z):=λz=>by unfold Vi;split;exact Bv _;exact Cy (show Fz s<=_ from OM { s with Dw:=s.Dw ||z.2.Dw } z.1) (bX _ _)
 unfold Ls;split;exact OM _ _;split;split;exact Bv _;exact E _;exact Bv _
def IY(s:Ao)(l:List Ty):Fz s<=Fz (L2 s l):=wL OM _ _
def G9q(p:Prog)(s:Ao):Fz s<=Fz (Me p s):=by
 refine wL (λo x=>?_) _ _;have E:Fz o<=Fz (if B9 p x 1=true then L2 o ((Bc p x).map (·.type))else o):=by split;exact IY _ _;exact Bv _
 refine Cy E (wL (λo c=>?_) _ _);unfold M1;split;exact Bv _;rename_i g _;refine Cy (Cy (IY o (Q0 g c)) (OM _ (T1 g c))) ?_;unfold Rk;split;exact Bv _;split;exact Bv _;exact F5o _ _ _ _
def rX{s:Ao}(h:X2 s=false):Fz s<=60:=by unfold X2 at h;simp only[DJ,lC]at h;omega
def qo{p:Prog}(h:p.Fit):∀(k:Nat) {s:Ao} (n:Int),s.Sm->(Ir p k s n).1.Sm
 |0,_,_,_=>⟨by simp[Ir],by simp[Ir]⟩
 |k+1,s,n,hs=>by have E:Ao.Sm Um:=⟨by simp,by simp⟩;rw[Ir];split;split;exact E;exact hs;split;exact E;exact qo h k _ (np h hs)
def cZ{p:Prog}(h:p.Fit):(Pk p Um p.main []).Sm:=mS (vars:=[]) ⟨h.sm,by simp,by simp,by simp,by simp⟩ _ ⟨by simp,by simp⟩ λy E=>HJ (Q:=Ex.Sm) (λe h x I=>h.kids.2 x I) _ h.sm.main y E
def H2i{p:Prog}(h:p.Fit):(Li p).1.Sm:=qo h _ _ (cZ h)
abbrev fiV(z:Ao × Bool):SV:=.tuple [Ks z.1,Ar z.2]
abbrev Tj:=[0,1,2,3,4,5,14,16,24]
def H5y(p:Prog)(h:p.Fit)(L:p.Le)(V:∀d,d∈p.decls->d.kind=3->d.body.Hs)(W:p.main.Hs):Ab Tryz.prog 6 [Cs p] (fiV (Li p)):=by
 have a4:=cZ h;have hN:=cd p [] ⟨h.sm,by simp,by simp,by simp,by simp⟩ Um ⟨by simp,by simp⟩ p.main h.sm.main W (by have:=L.main.list;unfold sm;omega);simp only[show Aw ([]:List Param)=[] from rfl]at hN;generalize hR:Li p=R;unfold Li at hR;generalize Pk p Um p.main []=s0 at*;refine cB func6 ?_;refine sR Tj ?_;refine sC hN Tj ?_;refine kR Tj λK1 u1=>?_;refine bA (A0.loop (X:=Nat × Ao × Int) (λz=>[(1,.box 1 0),(2,.box 2 0),(3,Ar false),(4,.box 4 0),(5,A6 z.2.2)]) (λz=>[(1,.cells ((Ah p).map .d)),(2,z38),(4,.cells (K9 z.2.1))]) (λz=>Ir p z.1 z.2.1 z.2.2=R/\z.2.1.Sm/\z.2.2<=60/\(63:Int)<=z.1+z.2.2/\z.2.2<=Fz z.2.1) (λz=>z.1) (64,s0,-1) ⟨hR,a4,by simp only;omega,by simp only;omega,by simp only;omega⟩ sS (by simp[ble,A9,Ah]) ?_);rintro⟨k,s,n⟩ ⟨E,hs,a1,a3,a0⟩;simp only at E hs a1 a3 a0 |-;have Z:=nX s hs;have I:=H2g s hs;have a2:=F8s p h L V s hs;have a5:=np h hs;have a7:=G9q p s;obtain⟨k',rfl⟩:∃k',k=k'+1:=⟨k - 1,by omega⟩;rw[Ir]at E;generalize a6:(Fz s:Nat)=zz at*;refine sK λO u2=>?_;by_cases U:n=(zz:Int)
 .rw[A7 U]at E;subst U;refine sC Z Tj ?_;refine sE ?_;apply u1;refine sK λK1 u1=>?_;cases J:X2 s with
  |true =>rw[J]at I E;rw[A7 rfl]at E;subst E;refine sC I Tj ?_;refine tI ?_;refine sR Tj ?_;exact aR
  |false =>rw[J]at I E;rw[A5 (by simp)]at E;subst E;refine sC I Tj ?_;refine kI u1 ?_;refine sR Tj ?_;exact aR
 .rw[A5 U]at E
  (refine sV Tj λK z=>?_;refine E0 U Z ?_;apply z)
  refine gI u2 ?_;refine bA<|sK λO u2=>?_;cases J:X2 s with
  |true =>rw[J]at I E;rw[A7 rfl]at E;subst E;refine sC I Tj ?_;refine tI ?_;refine sR Tj ?_;exact aR
  |false =>
   have a8:=rX J;rw[J]at I E;rw[A5 (by simp)]at E;generalize Me p s=s2 at*;refine sC I Tj ?_;refine kI u2 ?_;refine sC Z Tj ?_;(refine lV Tj λK z=>?_;refine cc a2 ?_;apply z;try simp only[Aa,Af]);exact⟨(k',s2,(zz:Int)),⟨E,a5,by simp only;omega,by simp only;omega,by simp only;omega⟩,by simp only;omega,sS,by simp[ble,A9,Ah]⟩
end Go.iA
