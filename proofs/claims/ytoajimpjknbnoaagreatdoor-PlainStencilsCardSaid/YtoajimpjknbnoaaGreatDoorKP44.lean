import Derived.Test.YtoajimpjknbnoaaGreatDoorKP28
import Derived.Test.YtoajimpjknbnoaaGreatDoorKS77
set_option linter.all false
set_option maxHeartbeats 4000000
set_option maxRecDepth 100000
namespace Go.iA
open Go
structure Typed(p:Prog):Prop where
 right:p.right=true
 head:HW p
 body:∀d,d∈p.decls->(Wy p true d).bad=false
 main:∃t,Dc (H3d p) p.main=(t,none)
def Typed.of{p:Prog}(hr:p.right=true)(hp:(Yd p true).bad=false):Typed p:=by have E:=λk d J=>tV (l:=p.decls) (i:=0) hp k d J;refine⟨hr,λi d hd=>by grind,λd hd=>?_,?_⟩;grind[List.getElem?_of_mem];have I:=bS (l:=p.decls) (i:=0) hp;exact⟨_,lax ⟨p,true,[],[]⟩ p.main _ (sL I)⟩
theorem dD(t:Ty):D3 [] t=none:=by grind[D3]
def jW{p:Prog}{t:Ty}(h:Br p [] t=none):kindOf p t.name≠0/\(Dm p t.name).length=t.args.length/\(∀u,u∈t.args->Br p [] u=none)/\Hn p [] (Dm p t.name) t.args<0:=by grind[zD,dD]
def vO{p:Prog}{t:Ty}(h:Br p [] t=none):B9 p t 1=true\/B9 p t 2=true:=by obtain⟨E,I,_⟩:=jW h;obtain⟨d,hd,J,_⟩:=ZG E;have:=(eF hd).1;unfold B9;grind
section
variable {p:Prog}
def sbD(hr:p.right=true)(Z:HW p){x:Ty}(hx:Br p [] x=none){d:Decl}(hd:Ec p x.name=some d):Sb p d.A1 [] (Ad d.A1) x.args/\∀u,u∈x.args->Br p [] u=none:=by
 have hp:=vI hr Z;obtain⟨h1,h2,h3,W⟩:=jW hx;obtain⟨d',J,_,L⟩:=ZG h1;rw[hd]at J;cases J;obtain⟨t1,t2⟩:=jF (nD Z hd).1;rw[L]at h2 W;have E:∀n,n∈Ad d.A1->kindOf p n=0/\¬P6 n:=λn U=>by
  obtain⟨f,O,rfl⟩:=Ap.1 U;obtain⟨i,hi⟩:=Lx O;refine⟨(t1 i f hi).1,aK ?_⟩;have I:d.right=true:=by unfold Prog.right at hr;simp at hr;exact hr.1 d (eF hd).2.2
  unfold Decl.right at I;simp only[Qn,Bh,Dz]at I;grind
 refine⟨⟨rfl,by simp[Ad,h2],E,by simp[Ad],λu V=>(PD (h3 u V)).mono λn U=>U.elim (by simp[Ad]) (hp.name n),λf L=>by grind,λi f u L V=>W4.1 W i f u L V⟩,h3⟩
theorem SY(hr:p.right=true)(I:HW p){x:Ty}(V:Br p [] x=none){f:Param}(E:f∈Bc p x):Br p [] f.type=none:=by unfold Bc at E;split at E;rename_i O;obtain⟨d,hd,L,_⟩:=La (by decide) O;rw[hd,Dx]at E;unfold fieldsD at E;obtain⟨y,U,rfl⟩:=Ap.1 E;obtain⟨sb,J⟩:=sbD hr I V hd;exact kD (vI hr I) sb J ((nD I hd).2.1 L y U);grind
def G0u(hr:p.right=true)(hw:HW p){x:Ty}(hx:Br p [] x=none){I:Decl}(L:Ec p x.name=some I)(hk:I.kind=2){E:A4}(a3:E∈I.sigs){targs:List Ty}(ad:E.A1.length=targs.length)
  (ht:∀t,t∈targs->Br p [] t=none)(hb:Hn p [] (E.canon.subst (Ad I.A1) x.args).A1 targs<0) :
  Sb p (I.A1++E.A1) [] (Ad I.A1++Ad E.A1) (x.args++targs)/\(∀u,u∈x.args++targs->Br p [] u=none) /\
  ∀b:Ty,Br p (I.A1++E.A1) b=none->((b.subst (Ad E.A1) (Dv E.A1.length)).subst (Ad I.A1) x.args).subst (Ad E.canon.A1) targs=b.subst (Ad I.A1++Ad E.A1) (x.args++targs):=by
 have hp:=vI hr hw;obtain⟨sb,a8⟩:=sbD hr hw hx L;obtain⟨s1,s2,s3⟩:=QF ((nD hw L).2.2 hk E a3);obtain⟨f1,f2⟩:=jF s1;have a2:(Ad I.A1).length=x.args.length:=sb.len.symm;have a6:∀u,u∈x.args++targs->Br p [] u=none:=λu O=>(Bj.1 O).elim (a8 u) (ht u);have a4:∀u,u∈x.args++targs->u.Lf λn=>¬P6 n:=λu O=>(PD (a6 u O)).mono λn hn=>hn.elim (by simp[Ad]) (hp.name n);have aa:(Ad E.A1).length=E.A1.length:=by simp[Ad]
 have a7:∀m,m∈Ad I.A1->m∉Ad E.A1:=λm hm hf=>by obtain⟨f,ab,ag⟩:=Ap.1 hf;grind[List.getElem?_of_mem]
 have Z:Ad E.canon.A1=(List.range E.A1.length).map En:=by rw[(FK E).fs];simp[A4.canon,I2]
 have W:∀b:Ty,Br p (I.A1++E.A1) b=none->((b.subst (Ad E.A1) (Dv E.A1.length)).subst (Ad I.A1) x.args).subst (Ad E.canon.A1) targs=b.subst (Ad I.A1++Ad E.A1) (x.args++targs):=λb hb =>
  mf (K:=λn=>kindOf p n≠0) aa ad.symm a2 Z a7 (λm hm=>(sb.fresh m hm).2) hp.name (λu O=>a4 u (CW _ O)) b ((PD hb).mono λn hn=>by grind[Ad])
 have ae:∀f,f∈E.A1->isName f.name=true:=λf hf=>by
  have a1:I.right=true:=by unfold Prog.right at hr;simp at hr;exact hr.1 I (eF L).2.2
  unfold Decl.right at a1;simp at a1;have:=a1.2.2.2.1 E a3;simp only[A4.right,Qn,Bh,Dz]at this;grind
 have J:∀n,n∈Ad I.A1++Ad E.A1->kindOf p n=0/\¬P6 n:=λn hn=>by rcases Bj.1 hn with h|h;exact sb.fresh n h;obtain⟨f,ab,rfl⟩:=Ap.1 h;grind[List.getElem?_of_mem,aK]
 have V:Ad (I.A1++E.A1)=Ad I.A1++Ad E.A1:=by unfold Ad;rw[Gy]
 obtain⟨t1,t2⟩:=jF (nD hw L).1;have a0:∀n,n∈Ad (I.A1++E.A1)->kindOf p n=0:=λn hn=>(J n (by grind)).1;refine⟨⟨V.symm,by grind,J,by simp[Ad],a4,λf hf=>?_,λi f u hf O=>?_⟩,a6,W⟩
 .rcases Bj.1 hf with hf|hf;have U:=(t2 f hf).2;simp at U;unfold isIface at U |-;rw[Bh]at U |-;refine⟨U.1,?_⟩;rw[AL a0 (by grind[Pf])];rfl
  grind
 .by_cases af:i<I.A1.length;rw[Mm (by omega)]at hf;rw[Mm (by grind[Ad])]at O;have ac:=sb.bnd i f u hf O;refine Zw ac (Yw ?_);rw[Ou a2 ((hp.bnd _ I L f (Bs hf)).mono λn hn=>hn.imp_right λh hm=>h (by grind))]
  .rw[Lq (by omega)]at hf;have a':x.args.length=I.A1.length:=by rw[<-a2];simp[Ad]
   rw[Lq (by omega),a']at O;have ai:=Bs hf;have a9:(E.canon.subst (Ad I.A1) x.args).A1[i - I.A1.length]?=some ⟨En (i - I.A1.length),(f.bound.subst (Ad E.A1) (Dv E.A1.length)).subst (Ad I.A1) x.args,f.pos⟩:=by have a5:=(Az.1 hf).1;simp only[A4.subst,A4.canon,I2];rw[Df,Px,hf];simp only[Em,Aj.subst,A7 a5]
   have:=W4.1 hb _ _ u a9 O;simp only at this;have ah:Ad (E.canon.subst (Ad I.A1) x.args).A1=Ad E.canon.A1:=by simp only[A4.subst,Ad,Dn];rfl
   grind
theorem yZ(hr:p.right=true)(W:HW p){x:Ty}(hx:Br p [] x=none){g:A4}(O:g∈D7 p [] x){targs:List Ty}(V:g.A1.length=targs.length)(ht:∀t,t∈targs->Br p [] t=none)(hb:Hn p [] g.A1 targs<0) :Br p [] (g.result.subst (Ad g.A1) targs)=none/\∀q,q∈g.params->Br p [] (q.type.subst (Ad g.A1) targs)=none:=by
 have hp:=vI hr W;rcases vO hx with hi|hi
 .obtain⟨d,d1,d2,d3,d4,rfl,d6⟩:=UF hi O;have I:d.sig.A1.length=targs.length:=by rw[<-V];simp[A4.subst,A4.canon,I2]
  have E:=called hr W d1 d2 hx hi d3 I ht hb;obtain⟨_,_,_,m4⟩:=nL W d1 d2;obtain⟨_,c2,c3⟩:=QF m4;have L:Ad (d.sig.canon.subst d.vars x.args).A1=Ad d.sig.canon.A1:=by simp only[A4.subst,Ad,Dn];rfl
  rw[L];refine⟨?_,λq Z=>?_⟩;show Br p [] (((d.sig.result.subst (Ad d.sig.A1) (Dv d.sig.A1.length)).subst d.vars x.args).subst (Ad d.sig.canon.A1) targs)=none;rw[E.inst _ c3];exact kD hp E.sb E.wf c3;simp only[A4.subst,A4.canon,J0,Ap]at Z;obtain⟨q1,J,rfl⟩:=Z;obtain⟨i,f,hf,_,rfl⟩:=mem_mapIdx J;have hc:=c2 f (Bs hf);show Br p [] (((f.type.subst (Ad d.sig.A1) (Dv d.sig.A1.length)).subst d.vars x.args).subst (Ad d.sig.canon.A1) targs)=none;rw[E.inst _ hc];exact kD hp E.sb E.wf hc
 .have a0:isIface p [] x=true:=by unfold isIface;rw[hi,dD];rfl
  rw[PL a0]at O;unfold Hj at O;rw[A7 hi]at O;obtain⟨d,hd,hk,_⟩:=La (by decide) hi;rw[hd,Dx]at O;unfold Xh Im at O;obtain⟨⟨y,i⟩,hy,rfl⟩:=Ap.1 O;have U:=Kv (Xr (Kp.1 hy).1);simp only at U V hb |-;have I:y.A1.length=targs.length:=by rw[<-V];simp[A4.subst,A4.canon,I2]
  obtain⟨sb,wf,inst⟩:=G0u hr W hx hd hk U I ht hb;obtain⟨_,c2,c3⟩:=QF ((nD W hd).2.2 hk y U);have L:Ad (y.canon.subst (Ad d.A1) x.args).A1=Ad y.canon.A1:=by simp only[A4.subst,Ad,Dn];rfl
  rw[L];refine⟨?_,λq Z=>?_⟩;show Br p [] (((y.result.subst (Ad y.A1) (Dv y.A1.length)).subst (Ad d.A1) x.args).subst (Ad y.canon.A1) targs)=none;grind[kD];simp only[A4.subst,A4.canon,J0,Ap]at Z;obtain⟨q1,J,rfl⟩:=Z;obtain⟨j,f,hf,_,rfl⟩:=mem_mapIdx J;have hc:=c2 f (Bs hf);show Br p [] (((f.type.subst (Ad y.A1) (Dv y.A1.length)).subst (Ad d.A1) x.args).subst (Ad y.canon.A1) targs)=none;grind[kD]
def O8(hr:p.right=true)(L:HW p){st:Bool}{vars:List Param}(O:∀f,f∈vars->Br p [] f.type=none):∀(e:Ex)(t:Ty),Dc ⟨p,st,[],vars⟩ e=(t,none)->Br p [] t=none:=by intro e;induction e using Ex.induct with|_ e J=>?_;intro t h;rcases Jc.1 h with⟨_,k,f,_,I,rfl⟩|⟨_,E,_,_,rfl⟩|⟨v,vs,x,U,V,h⟩;grind;exact E;grind[Wa,yZ,SY]
theorem PX{c:Cd}{e:Ex}{t:Ty}(U:e.One)(ht:Dc c e=(t,none)):∀x,x∈e.kids->∃K,Dc c x=(K,none):=by
 have key:∀(L:List Ty) (es:List Ex),Si c L es->∀x,x∈es->∃K,Dc c x=(K,none):=λL es E x I=>by
  obtain⟨i,V⟩:=Lx I;have O:i<L.length:=by rw[E.1];exact(Az.1 V).1
  obtain⟨K,hk,_⟩:=E.2 i _ x (Bu O) V;grind
 rcases Jc.1 ht with⟨k1,_⟩|⟨_,_,_,E,_⟩|⟨v,vs,x,J,I,W⟩;intro x I;rw[U.out.1.1 k1]at I;grind;grind;intro y hy;rw[J]at hy;rcases Ay.1 hy with rfl|hy;grind;rcases W with⟨_,s,_,E,_⟩|⟨k4,_⟩|⟨Z,_⟩;grind;have:=U.out.1.2 (.inl k4);grind;have:=U.out.1.2 (.inr Z);grind
def AT{c:Cd}{e:Ex}{t:Ty}(E:e.One)(ht:Dc c e=(t,none)):∀y,y∈B3 e->y.One/\∃K,Dc c y=(K,none) :=HJ (Q:=λy=>y.One/\∃K,Dc c y=(K,none)) (λe h x I=>⟨h.1.out.2 x I,by grind[PX]⟩) e ⟨E,t,ht⟩
def uy{vars:List Param}(v:List A3)(a:List Ty)(nm:A3):Gp (vars.map (Param.subst v a)) nm=Gp vars nm:=by unfold Gp E3;rw[List.findIdx?_map];rfl
def ly{env env':List Aj}{v:List A3}{a:List Ty}(hp:PW p)(sb:Sb p env env' v a)(L:∀u,u∈a->Br p env' u=none){st:Bool}{vars:List Param} :∀(e:Ex) (t:Ty),Dc ⟨p,st,env,vars⟩ e=(t,none)->∃I,Dc ⟨p,false,env',vars.map (Param.subst v a)⟩ (e.subst v a)=(I,none)/\Cr p env' I (t.subst v a)=true:=by
 intro e;induction e using Ex.induct with|_ e U=>?_;intro t h;by_cases k1:e.kind=1
 .rcases Jc.1 h with⟨_,k,f,J,E,rfl⟩|⟨h3,_⟩|⟨_,_,_,_,_,h3|h3|h3⟩;refine⟨f.type.subst v a,Jc.2 (.inl ⟨by rw[Qi];exact k1,k,Param.subst v a f,?_,?_,rfl⟩),LN _ _ _⟩;show Gp (vars.map (Param.subst v a)) (e.subst v a).name=k;rw[uy,Qi];exact J;grind;all_goals omega
 refine dx hp sb L (vars:=vars) (e:=e) (by rw[Qi];rfl) (by rw[Qi];rfl) (by rw[Qi];rfl) (by rw[Qi];rfl) (by rw[Qi];simp[Ex.kids]) k1 h ?_;intro i k O K J E h3;rw[Qi]at E;have E:(e.kids.map (Ex.subst v a))[i]?=some O:=E;grind
structure OG(p:Prog)(c:Be):Prop where
 on:Br p [] c.on=none
 targs:∀t,t∈c.targs->Br p [] t=none
 sig:∃g,g∈D7 p [] c.on/\g.name=c.name/\g.A1.length=c.targs.length/\Hn p [] g.A1 c.targs<0
structure Ao.Gd(p:Prog)(s:Ao):Prop where
 types:∀t,t∈s.types->Br p [] t=none
 calls:∀c,c∈s.calls->OG p c
def Ao.Gd.lg{s:Ao}(h:s.Gd p)(b:Bool):Ao.Gd p { s with Dw:=b }:=⟨h.types,h.calls⟩
theorem UK{s:Ao}(hs:s.Gd p){x:Ty}(E:Br p [] x=none):(Hc s x).Gd p:=by unfold Hc;split;exact⟨hs.types,hs.calls⟩;refine⟨λt ht=>?_,hs.calls⟩;rcases(NG (cmp:=Er) (x:=x) s.types).2 t ht with rfl|h;exact E;exact hs.types t h
def F4x{s:Ao}(hs:s.Gd p){x:Be}(E:OG p x):(Hi s x).Gd p:=by unfold Hi;split;exact⟨hs.types,hs.calls⟩;refine⟨hs.types,λt ht=>?_⟩;rcases(NG (cmp:=E8) (x:=x) s.calls).2 t ht with rfl|h;exact E;exact hs.calls t h
def F6p(hr:p.right=true)(V:HW p){vars:List Param}(W:∀f,f∈vars->Br p [] f.type=none){y v:Ex}{vs:List Ex}{t x:Ty}(ht:Dc ⟨p,false,[],vars⟩ y=(t,none))(h2:y.kind=2)(hk:y.kids=v::vs)(J:Dc ⟨p,false,[],vars⟩ v=(x,none)):OG p ⟨x,y.name,y.targs⟩:=by rcases Jc.1 ht with⟨h,_⟩|⟨h,_⟩|⟨v',a0,x',I,E,h⟩;omega;omega;rw[hk]at I;cases I;rw[J]at E;cases E;rcases h with⟨_,s,hs,_⟩|⟨h,_⟩|⟨h,_⟩;obtain⟨L,Z,O,s4,U,_⟩:=Wa.1 hs;exact⟨O8 hr V W v x J,s4,s,L,Z,O,U⟩;all_goals omega
def vp(hr:p.right=true)(E:HW p){vars:List Param}(I:∀f,f∈vars->Br p [] f.type=none){e:Ex}{t:Ty}(V:e.One)(ht:Dc ⟨p,false,[],vars⟩ e=(t,none)){s:Ao}(hs:s.Gd p):(Pk p s e vars).Gd p:=by refine foldI _ (λs y U hs=>?_) hs;obtain⟨_,K,L⟩:=AT V ht y U;unfold Ls;split;grind[UK,Jc];split;rename_i k2;split;exact hs;rename_i v vs O;unfold Vi;split;exact⟨hs.types,hs.calls⟩;rename_i W;have J:=sL (c:=⟨p,false,[],vars⟩) (e:=v) (by grind);exact F4x (UK (hs.lg _) (O8 hr E I v _ J)) (F6p hr E I L k2 O J);omega
theorem zk{g E:A4}(h:g.er=E.er){a:List Ty}(Z:Hn p [] E.A1 a<0):Hn p [] g.A1 a<0:=by
 obtain⟨_,O,_⟩:=Yr h;have hn:Ad g.A1=Ad E.A1:=by rw[<-Tv g.A1,O,Tv]
 refine W4.2 λi f u I hu=>?_;obtain⟨U,J,W⟩:=Wq O I;have L:=W4.1 Z i U u J hu;refine Zw L (Yw ?_);have V:U.bound.er=f.bound.er:=by have:=F8 Aj.bound W;simpa [Aj.er]using this
 grind[Gu]
def zp{x:Ty}{c:Be}(V:OG p c){g:A4}(h:Pq p x c=some g):g∈D7 p [] x/\g.name=c.name/\g.A1.length=c.targs.length/\Cr p [] x c.on=true/\Hn p [] g.A1 c.targs<0:=by
 unfold Pq at h;split at h;cases h;rename_i W;split at h;cases h;rename_i g' E;split at h
 .rename_i I;cases h;have L:=Mj.1 (Bs E);have J:g.name=c.name:=by unfold Fo at E W;rcases My (λs:A4=>decide (s.name=c.name)) (C3 p [] x)with⟨h1,_⟩|⟨j,y,h1,h2,h3⟩;omega;grind
  refine⟨L,J,I.1,I.2,?_⟩;obtain⟨g0,O,n0,_,b0⟩:=V.sig;obtain⟨Z,U,es⟩:=JJ I.2 g0 O;have:Z=g:=Yu (kF p [] x) U L (by rw[J,<-n0];have:=F8 A4.name es;simpa [A4.er]using this);grind[zk]
 grind
def KS(L:Typed p){x:Ty}(hx:Br p [] x=none){c:Be}(Z:OG p c){g:A4}(h:Pq p x c=some g){d:Decl}(hd:L9 p x c.name=some d) :d∈p.decls/\d.kind=3/\g=d.sig.canon.subst d.vars x.args/\zN p d x c.targs/\(∀f,f∈Sp p d x c->Br p [] f.type=none) /\∃t,Dc ⟨p,false,[],Sp p d x c⟩ (M4 d x c)=(t,none)/\Cr p [] t (d.sig.result.subst (Jv d) (Ia x c))=true:=by
 have hp:=vI L.right L.head;obtain⟨g1,g2,g3,g4,g5⟩:=zp Z h;obtain⟨J,V,hi,_⟩:=Vq hd;obtain⟨d',_,_,d3,_,he,U⟩:=UF hi g1;rw[g2,hd]at U;cases U;subst he;have W:d.sig.A1.length=c.targs.length:=by rw[<-g3];simp[A4.subst,A4.canon,I2]
 have E:=called L.right L.head J V hx hi d3 W Z.targs g5;obtain⟨_,_,_,m4⟩:=nL L.head J V;obtain⟨_,c2,c3⟩:=QF m4;have I:=L.body d J;unfold Wy at I;rw[A7 V]at I;unfold P5 at I;have O:(Da (Hv p true d) d.body).2.bad=false/\Cr p (Fq p d++d.sig.A1) (Da (Hv p true d) d.body).1 d.sig.result=true:=by split at I;cases I;grind[Hv]
 obtain⟨t',k1,k2⟩:=ly hp E.sb E.wf (st:=true) (vars:=(Hv p true d).vars) d.body _ (sL O.1);refine⟨J,V,rfl,E,λf hf=>?_,t',k1,Zw k2 (SQ hp E.sb O.2)⟩;obtain⟨q,hq,rfl⟩:=Ap.1 hf;rcases Ay.1 hq with rfl|hq;exact va E.self.symm hx;exact kD hp E.sb E.wf (c2 q hq)
def GS{d:Decl}(h:d.body.One)(x:Ty)(c:Be):(M4 d x c).One:=Ex.One.subst _ _ h
def G0s(E:Typed p){x:Ty}(L:Br p [] x=none){s:Ao}(hs:s.Gd p){c:Be}(I:OG p c):(M1 p x s c).Gd p:=by unfold M1;split;exact hs;rename_i g h;obtain⟨V,g2,O,g4,g5⟩:=zp I h;obtain⟨Z,w2⟩:=yZ E.right E.head L V O I.targs g5;have h1:(Hc (L2 s (Q0 g c)) (T1 g c)).Gd p:=UK (foldI _ (λs t ht h=>by obtain⟨q,hq,rfl⟩:=Ap.1 ht;exact UK h (w2 q hq)) hs) Z;unfold Rk;rcases cR p x c.name with⟨J,_⟩|⟨j,d,J,hd,W⟩;grind;rw[J,A5 (by omega),Ic,hd];simp only;obtain⟨b1,b2,_,_,b3,t,U,_⟩:=KS E L I h W;exact vp E.right E.head b3 (GS ((RL E.right).1 d b1 b2) x c) U h1
def H5t(E:Typed p){s:Ao}(hs:s.Gd p):(Me p s).Gd p:=by refine foldI _ (λo x J I=>foldI _ (λo c O I=>G0s E (hs.types x J) I (hs.calls c O)) ?_) hs;split;refine foldI _ (λs t ht h=>?_) I;obtain⟨f,L,rfl⟩:=Ap.1 ht;exact UK h (SY E.right E.head (hs.types x J) L);omega
def O0(E:Typed p):∀(k:Nat) {s:Ao} (n:Int),s.Gd p->(Ir p k s n).1.Gd p
 |0,_,_,_=>⟨by simp[Ir],by simp[Ir]⟩|k+1,s,n,h=>by have I:Ao.Gd p Um:=⟨by simp,by simp⟩;rw[Ir];split;grind;split;exact I;exact O0 E k _ (H5t E h)
def G6a(E:Typed p):(Li p).1.Gd p:=by obtain⟨t,ht⟩:=E.main;exact O0 E _ _ (vp E.right E.head (by simp) (RL E.right).2 ht ⟨by simp,by simp⟩)
end
def Gq:A3->List (UInt8 × Bool)
 |[]=>[]|[c]=>[(c,false)]|a::b::r=>if a=95 then(if b=95 then(95,false)::Gq r else(b,true)::Gq r)else(a,false)::Gq (b::r)
abbrev Uk(n:A3):List (UInt8 × Bool):=n.map λc=>(c,false)
theorem o4{c:UInt8}(h:c≠95)(s:A3):Gq (c::s)=(c,false)::Gq s:=by
 cases s with
 |nil=>rfl|cons b r=>rw[Gq,A5 h]
theorem pK{c:UInt8}(h:c≠95)(s:A3):Gq (95::c::s)=(c,true)::Gq s:=by rw[Gq,A7 rfl,A5 h]
theorem WU(n s:A3):Gq (Fx n++s)=Uk n++Gq s:=by
 induction n with
 |nil=>rfl|cons c n E =>rw[show Fx (c::n)=(if c=95 then[95,95]else[c])++Fx n by rfl,H3,show Uk (c::n)=(c,false)::Uk n from rfl,Kn,<-E];by_cases h:c=95;subst h;rfl;rw[A5 h];exact o4 h _
theorem G3e{n:A3}(h:∀c,c∈n->c≠95)(s:A3):Gq (n++s)=Uk n++Gq s:=by
 induction n with
 |nil=>rfl|cons c n E =>grind[o4]
def Yc:List (List (UInt8 × Bool))->List (UInt8 × Bool)
 |[]=>[]|[x]=>x|x::y::r=>x++(67,true)::Yc (y::r)
mutual
def Ty.tk:Ty->List (UInt8 × Bool)
 |.mk n a _=>if n.head? =some 36/\a.isEmpty=true then(86,true)::Uk (n.drop 1)else Uk n++(if a.isEmpty=true then[]else(76,true)::(Yc (jB a)++[(82,true)]))
def jB:List Ty->List (List (UInt8 × Bool))
 |[]=>[]|t::E=>t.tk::jB E
end
theorem DB:∀l:List Ty,jB l=l.map Ty.tk
 |[]=>rfl|t::E=>by rw[jB,DB E,Cj]
def Wx(l:List Ty):List (UInt8 × Bool):=if l=[]then[]else(76,true)::(Yc (l.map Ty.tk)++[(82,true)])
def NA(t:Ty):t.tk=if t.name.head? =some 36/\t.args=[]then(86,true)::Uk (t.name.drop 1)else Uk t.name++Wx t.args:=by obtain⟨n,a,q⟩:=t;grind[Ty.tk,DB,Ty.name,Ty.args,Wx]
theorem ft(i:Nat):∀c,c∈Lib.decDigits i->c≠95:=by induction i using Nat.strongRecOn with|_ u I=>?_;intro c hc;rw[Lib.decDigits]at hc;split at hc;rename_i h;rw[Pj.1 hc];intro E;have:=F8 UInt8.toNat E;simp at this;omega;rename_i h;rcases Bj.1 hc with hc|hc;grind;rw[Pj.1 hc];intro E;have:=F8 UInt8.toNat E;simp at this;omega
theorem de:∀(l:List Ty)(s:A3),(∀t,t∈l->∀r,Gq (t.mg++r)=t.tk++Gq r)->Gq (Lib.join (l.map Ty.mg) Qj++s)=Yc (l.map Ty.tk)++Gq s
 |[],s,_=>by rfl|[x],s,h=>by rw[show Lib.join ([x].map Ty.mg) Qj=x.mg by simp[Lib.join_cons,Lib.joinTail]];exact h x (by simp) s
 |x::y::r,s,h=>by
  have E:=de (y::r) s λt ht=>h t (by grind);have e:Lib.join ((x::y::r).map Ty.mg) Qj=x.mg++(Qj++Lib.join ((y::r).map Ty.mg) Qj):=by simp[Lib.join_cons,Lib.joinTail]
  rw[e,H3,h x (by simp)];show x.tk++Gq (95::67::(Lib.join ((y::r).map Ty.mg) Qj++s))=_;grind[pK,Yc]
theorem o3{l:List Ty}(h:∀t,t∈l->∀r,Gq (t.mg++r)=t.tk++Gq r)(s:A3):Gq (Ki l++s)=Wx l++Gq s:=by unfold Ki Wx;by_cases E:l=[];grind;rw[A5 E,A5 E];show Gq (95::76::(Lib.join (l.map Ty.mg) Qj++[95,82]++s))=_;grind[de,Gq]
theorem RG:∀{t:Ty},t.Mg->∀s,Gq (t.mg++s)=t.tk++Gq s:=by
 intro t ht
 induction ht with
 |loc i p V =>intro s;rw[FA,NA,A7 ⟨rfl,rfl⟩,A7 ⟨rfl,rfl⟩];simp only[En,Ty.name,Uv,AW,vJ];grind[pK,G3e,ft]
 |R0 n a p J O U L I =>
  intro s;have E:¬((Ty.mk n a p).name.head? =some 36/\(Ty.mk n a p).args=[]):=λh=>gJ J h.1;rw[FA,NA,A5 E,A5 E,H3,WU,H3]
  congr 1
  exact o3 (l:=a) (λt ht r=>I t ht r) s
def Sep(r:List (UInt8 × Bool)):Prop:=r=[]\/∃c E,r=(c,true)::E/\c≠76
def QH:∀{n m:A3} {r1 r2:List (UInt8 × Bool)},(r1=[]\/∃c E,r1=(c,true)::E)->(r2=[]\/∃c E,r2=(c,true)::E)->Uk n++r1=Uk m++r2->n=m/\r1=r2
 |[],[],r1,r2,_,_,h=>⟨rfl,h⟩|[],c::m,r1,r2,J,_,h=>by grind|c::n,[],r1,r2,_,I,h=>by grind|c::n,d::m,r1,r2,J,I,h=>by simp at h;obtain⟨L,O⟩:=QH J I h.2;grind
def Sep.qW{r:List (UInt8 × Bool)}(h:Sep r):r=[]\/∃c E,r=(c,true)::E:=h.imp id λ⟨c,E,h,_⟩=>⟨c,E,h⟩
def zK{l:List Ty}{r:List (UInt8 × Bool)}(h:Sep r):Wx l++r=[]\/∃c E,Wx l++r=(c,true)::E:=by unfold Wx;split;exact h.qW;simp
theorem iV:∀{a b:List Ty} {r1 r2:List (UInt8 × Bool)},a≠[]->b≠[]->(∀t,t∈a->∀u:Ty,u.Mg->∀r1 r2,Sep r1->Sep r2->t.tk++r1=u.tk++r2->t.er=u.er/\r1=r2)->(∀u,u∈b->u.Mg) ->Yc (a.map Ty.tk)++(82,true)::r1=Yc (b.map Ty.tk)++(82,true)::r2->a.map Ty.er=b.map Ty.er/\r1=r2
 |[x],[y],r1,r2,_,_,I,E,h=>by
  obtain⟨U,J⟩:=I x (by simp) y (E y (by simp)) _ _ (.inr ⟨82,r1,rfl,by decide⟩) (.inr ⟨82,r2,rfl,by decide⟩) h
  grind
 |[x],y::O::b,r1,r2,_,_,I,E,h=>by
  simp only[Cj,G5,Yc,H3,Kn]at h;obtain⟨_,J⟩:=I x (by simp) y (E y (by simp)) _ _ (.inr ⟨82,r1,rfl,by decide⟩) (.inr ⟨67,_,rfl,by decide⟩) h
  grind
 |x::L::a,[y],r1,r2,_,_,I,E,h=>by
  simp only[Cj,G5,Yc,H3,Kn]at h;obtain⟨_,J⟩:=I x (by simp) y (E y (by simp)) _ _ (.inr ⟨67,_,rfl,by decide⟩) (.inr ⟨82,r2,rfl,by decide⟩) h
  grind
 |x::L::a,y::O::b,r1,r2,_,_,I,E,h=>by
  rw[Cj,Cj,Cj,Cj,Yc,Yc,H3,H3,Kn,Kn]at h;obtain⟨U,J⟩:=I x (by simp) y (E y (by simp)) _ _ (.inr ⟨67,_,rfl,by decide⟩) (.inr ⟨67,_,rfl,by decide⟩) h;simp at J;rw[<-Cj (f:=Ty.tk),<-Cj (f:=Ty.tk)]at J;obtain⟨W,V⟩:=iV (a:=L::a) (b:=O::b) (by simp) (by simp) (λt ht=>I t (by grind)) (λu Z=>E u (by grind)) J
  grind
def TR:∀{t:Ty},t.Mg->∀u:Ty,u.Mg->∀r1 r2,Sep r1->Sep r2->t.tk++r1=u.tk++r2->t.er=u.er/\r1=r2:=by
 intro t ht
 induction ht with
 |loc i p hi =>
  intro u U r1 r2 L I h;rw[NA,A7 ⟨rfl,rfl⟩]at h;cases U with
  |loc j q hj =>rw[NA,A7 ⟨rfl,rfl⟩]at h;simp only[Kn,Ya,Qx]at h;obtain⟨O,E⟩:=QH L.qW I.qW h;grind[Gv,Ty.name,Ty.args,En]|R0 n a q k1 k2 k3 k4 =>rw[NA,A5 λh=>gJ k1 h.1]at h;grind[UQ,Ty.name]
 |R0 n a p k1 k2 k3 k4 ih =>
  intro u U r1 r2 L I h;rw[NA,A5 λh=>gJ k1 h.1]at h;cases U with
  |loc j q hj =>rw[NA,A7 ⟨rfl,rfl⟩]at h;grind[UQ,Ty.name]
  |R0 m b q Z l2 l3 l4 =>
   rw[NA,A5 λh=>gJ Z h.1,H3,H3]at h;obtain⟨O,E⟩:=QH (zK L) (zK I) h;simp only[Ty.name,Ty.args]at O E;subst O;rw[Gv,Gv];simp only[Ty.name,Ty.args];unfold Wx at E;by_cases V:a=[]
   .rw[A7 V]at E;by_cases J:b=[];grind
    .rw[A5 J]at E;rcases L with rfl|⟨c,r',rfl,W⟩;all_goals grind
   .rw[A5 V]at E;by_cases J:b=[]
    .rw[A7 J]at E;rcases I with rfl|⟨c,r',rfl,W⟩;all_goals grind
    rw[A5 J]at E;simp at E;grind[iV]
def j9{t u:Ty}(ht:t.Mg)(I:u.Mg)(h:t.mg=u.mg):t.er=u.er:=by have E:=RG ht [];have J:=RG I [];rw[h]at E;rw[J]at E;exact(TR ht u I [] [] (.inl rfl) (.inl rfl) (by simp_all)).1
def OV(n:A3){l:List Ty}(E:∀t,t∈l->t.Mg)(s:A3):Gq (Gm n l++s)=Uk n++Wx l++Gq s:=by grind[Gm,WU,o3,RG]
def uc{n m:A3}{a b:List Ty}(L:∀t,t∈a->t.Mg)(V:∀t,t∈b->t.Mg)(h:Gm n a=Gm m b):n=m/\a.map Ty.er=b.map Ty.er:=by have J:=OV n L [];have Z:=OV m V [];rw[h,Z]at J;simp only[H3,Gq]at J;have O:Sep []:=.inl rfl;obtain⟨W,E⟩:=QH (zK O) (zK O) J.symm;refine⟨W,?_⟩;simp at E;unfold Wx at E;by_cases U:a=[];grind;by_cases I:b=[];grind;rw[A5 U,A5 I]at E;simp only[Ya,Qx]at E;exact(iV (r1:=[]) (r2:=[]) U I (λt ht=>TR (L t ht)) V E).1
def Xe(l:List (Ty × UInt8)):List (UInt8 × Bool):=l.flatMap λz=>z.1.tk++[(z.2,true)]
def rk:∀{a b:List (Ty × UInt8)},(∀z,z∈a->z.1.Mg/\z.2≠76)->(∀z,z∈b->z.1.Mg/\z.2≠76)->Xe a=Xe b->a.map (λz=>(z.1.er,z.2))=b.map (λz=>(z.1.er,z.2))
 |[],[],_,_,_=>rfl|[],y::b,_,_,h=>by simp[Xe]at h|x::a,[],_,_,h=>by simp[Xe]at h|x::a,y::b,E,I,h=>by unfold Xe at h;rw[Ww,Ww,H3,H3]at h;obtain⟨O,J⟩:=TR (E x (by simp)).1 y.1 (I y (by simp)).1 _ _ (.inr ⟨x.2,_,rfl,(E x (by simp)).2⟩) (.inr ⟨y.2,_,rfl,(I y (by simp)).2⟩) h;simp only[Kn,Wv,Ya,Gg,Va]at J;have U:=rk (λz L=>E z (by grind)) (λz L=>I z (by grind)) J.2;grind
def WH(s:A4):List (Ty × UInt8):=s.A1.map (λf=>(f.bound,66))++(s.params.map (λf=>(f.type,80))++[(s.result,69)])
structure A4.Mc(s:A4):Prop where
 A1:∀f,f∈s.canon.A1->f.bound.Mg
 params:∀f,f∈s.canon.params->f.type.Mg
 result:s.canon.result.Mg
def yp:∀(l:List Aj)(s:A3),(∀f,f∈l->f.bound.Mg)->Gq (Jx l++s)=Xe (l.map λf=>(f.bound,66))++Gq s
 |[],s,_=>by rfl|f::l,s,h=>by have E:=yp l s λg I=>h g (by grind);rw[show Jx (f::l)=f.bound.mg++([95,66]++Jx l) by simp[Jx],H3,RG (h f (by simp))];grind[pK,Xe]
def Al:∀(l:List Param)(s:A3),(∀f,f∈l->f.type.Mg)->Gq (Kd l++s)=Xe (l.map λf=>(f.type,80))++Gq s
 |[],s,_=>by rfl|f::l,s,h=>by have E:=Al l s λg I=>h g (by grind);rw[show Kd (f::l)=f.type.mg++([95,80]++Kd l) by simp[Kd],H3,RG (h f (by simp))];grind[pK,Xe]
def HS{s:A4}(h:s.Mc):Gq (L7 s)=Uk s.name++(83,true)::Xe (WH s.canon):=by
 have e:L7 s=Fx s.name++(95::83::(Jx s.canon.A1++(Kd s.canon.params++(s.canon.result.mg++[95,69])))):=by unfold L7;simp only[H3,Kn,Wv]
 rw[e,WU,pK (by decide),yp _ _ h.A1,Al _ _ h.params,RG h.result];have:Gq [95,69]=[(69,true)]:=by rw[pK (by decide)];rfl
 rw[this];simp[WH,Xe]
def F6w{a b:A4}(h:(WH a).map (λz=>(z.1.er,z.2))=(WH b).map (λz=>(z.1.er,z.2))) :a.A1.map (λf=>f.bound.er)=b.A1.map (λf=>f.bound.er)/\a.params.map (λf=>f.type.er)=b.params.map (λf=>f.type.er)/\a.result.er=b.result.er:=by
 unfold WH at h;simp at h;have key:∀{α β:Type} {f:α->Ty} {m:UInt8} {x:List α} {y:List α} {r1 r2:List (Ty × UInt8)},(∀z∈r1.head?,z.2≠m)->(∀z∈r2.head?,z.2≠m)->x.map (λa=>(f a,m))++r1=y.map (λa=>(f a,m))++r2->x.map f=y.map f/\r1=r2:=by
  intro α β f m x
  induction x with
  |nil =>
   intro y r1 r2 L I h;cases y with
   |nil=>grind|cons y ys =>simp_all
  |cons x xs U =>
   intro y r1 r2 L I h;cases y with
   |nil =>grind|cons y ys =>grind
 have E:∀(s:A4),∀z∈((s.params.map λf=>(f.type.er,(80:UInt8)))++[(s.result.er,(69:UInt8))]).head?,z.2≠66:=λs z V=>by grind
 obtain⟨O,J⟩:=key (β:=Unit) (f:=λf:Aj=>f.bound.er) (m:=66) (x:=a.A1) (y:=b.A1) (E a) (E b) h;obtain⟨Z,W⟩:=key (β:=Unit) (f:=λf:Param=>f.type.er) (m:=80) (x:=a.params) (y:=b.params) (by simp) (by simp) J;grind
def pj{s t:A4}(hs:s.Mc)(ht:t.Mc)(h:L7 s=L7 t):s.name=t.name/\s.canon.A1.map (λf=>f.bound.er)=t.canon.A1.map (λf=>f.bound.er)/\s.canon.params.map (λf=>f.type.er)=t.canon.params.map (λf=>f.type.er)/\s.canon.result.er=t.canon.result.er:=by
 have L:=HS hs;rw[h,HS ht]at L;obtain⟨O,J⟩:=QH (.inr ⟨83,_,rfl⟩) (.inr ⟨83,_,rfl⟩) L.symm;simp at J;have I:∀{s:A4},s.Mc->∀z,z∈WH s.canon->z.1.Mg/\z.2≠76:=λ{s} hs z hz=>by unfold WH at hz;rcases Bj.1 hz with hz|hz;obtain⟨f,E,rfl⟩:=Ap.1 hz;exact⟨hs.A1 f E,by simp⟩;rcases Bj.1 hz with hz|hz;obtain⟨f,E,rfl⟩:=Ap.1 hz;exact⟨hs.params f E,by simp⟩;rw[Pj.1 hz];exact⟨hs.result,by simp⟩
 obtain⟨k1,k2,k3⟩:=F6w (rk (I hs) (I ht) J);grind
def US{s:A4}(hs:s.Mc){n:A3}{l:List Ty}(I:∀t,t∈l->t.Mg):L7 s≠Gm n l:=λh=>by have L:=HS hs;have E:=OV n I [];rw[Fv,<-h,L]at E;simp only[H3,Gq,Fv]at E;have J:Sep []:=.inl rfl;obtain⟨_,O⟩:=QH (.inr ⟨83,_,rfl⟩) (by simpa using zK (l:=l) J) E;grind[Wx]
def mX{t:Ty}(ht:t.Mg):Lb≠t.mg:=λh=>by
 have E:=RG ht [];rw[Fv,<-h]at E;have I:Gq Lb=Uk [84,111,112]++[(84,true)]:=by decide
 rw[I]at E;simp only[Gq,Fv]at E;cases ht with
 |loc i p O=>rw[NA,A7 ⟨rfl,rfl⟩]at E;grind|R0 n a q k1 k2 k3 k4 =>rw[NA,A5 λh=>gJ k1 h.1]at E;have J:Sep []:=.inl rfl;obtain⟨_,L⟩:=QH (.inr ⟨84,[],rfl⟩) (by have:=zK (l:=a) J;rwa [Fv]at this) E;grind[Wx]
end Go.iA
namespace Go.iA
open Go Go.Proofs
structure Decl.Lm(d:Decl):Prop where
 A1:d.A1.length<=sm/\∀f,f∈d.A1->f.bound.Lm
 fields:d.fields.length<=sm/\∀f,f∈d.fields->f.type.Lm
 sigs:d.sigs.length<=3*sm/\∀s,s∈d.sigs->s.Lm
 vars:d.vars.length<=sm
 sig:d.sig.Lm
 body:d.body.Lm
def zZ:Jg.Lm:=⟨by simp[Jg],by simp[Jg],.mk _ _ _ (by simp) (by simp)⟩
def O6:U2.Lm:=jl.lm
def l1:Qc.Lm:=.mk _ _ _ (by simp) (by simp)
def jo(k:Int)(nm:A3)(fs:List Param)(ss:List A4)(I:fs.length<=sm/\∀f,f∈fs->f.type.Lm)(E:ss.length<=3*sm/\∀s,s∈ss->s.Lm):(headD k nm fs ss).Lm :=⟨⟨by simp[headD],by simp[headD]⟩,I,E,by simp[headD],zZ,O6⟩
def mj(s:A4):(Gb s).Lm:=⟨by simp[Gb],by simp[Gb],l1⟩
def G6q:∀{e:Ex},e.Sm->(Bt e).Lm:=by intro e;induction e using Ex.induct with|_ e I=>?_;intro h;rw[Qp];refine .mk _ _ _ _ _ _ (.mk _ _ _ (by simp) (by simp)) (by simp) (by simp) (by rw[B7];exact h.kids.1) λx J=>?_;obtain⟨y,E,rfl⟩:=Ap.1 J;exact I y E (h.kids.2 y E)
def F6j{p:Prog}(hp:p.count<=600)(hr:p.right=true){s:Ao}(h:s.Fd){x:Ty}(hx:x∈s.types):(Gn p s.calls x).length<=3*sm/\∀d,d∈Gn p s.calls x->d.Lm:=by
 have E:=oA p hp;have a7:=Prog.V4 p hp;have a1:=h.sm.types.2 x hx;have a6:=h.types x hx;obtain⟨ab,V⟩:=JV (p:=p) h hx;have ac:=W0 E.sm [] x;have U:=DE E.sm a7 hr a1 a6.args;have a4:(Bc p x).length<=sm:=NJ E.sm x;have a0:=nC (J4 Bt p) (Y3 p s.calls x).calls;have a2:=nC (Hy p) (Y3 p s.calls x).calls;unfold Gn VQ AP gQ;generalize(Y3 p s.calls x).calls=C at*;refine⟨?_,λd hd=>?_⟩
 .rw[B5];have hz:(1:Nat)<=sm:=by decide
  split;rename_i a5;rw[A5 λhh=>by have:=(Pf a5).1;have:=(Pf hh).1;omega];simp only[Bg,B5,B7,Ck];omega;split <;> simp <;> omega
 rcases Bj.1 hd with hd|hd
 .split at hd
  .rcases Ay.1 hd with rfl|hd;refine jo _ _ _ _ ⟨by rw[G8,B7];exact a4,λf hf=>?_⟩ ⟨by simp,by simp⟩;obtain⟨y,_,rfl⟩:=Ap.1 hf;exact nW _;rcases Bj.1 hd with hd|hd
   .obtain⟨c,hc,I⟩:=Md.1 hd;obtain⟨O,a3⟩:=V c hc;unfold J4 at I;split at I;cases I
    .rename_i m a9;split at I;cases I
     .rename_i g hg;cases I;obtain⟨aa,a',_,_⟩:=Vq a9;obtain⟨_,a8,_⟩:=uP hp E.sm hr aa a' a3;have L:=WX (l:=C3 p [] c.on) (c:=c) (λy W=>by rw[O]at W;exact(U y W).params.1) hg;refine⟨⟨by simp,by simp⟩,⟨by simp,by simp⟩,⟨by simp,by simp⟩,by simp,⟨⟨by simp,by simp⟩,⟨?_,λf hf=>?_⟩,L.result⟩,G6q a8⟩;simp only[F7,pN];have:=L.params.1;omega
      .obtain⟨i,J⟩:=Lx hf;simp only[F7,GW]at J;cases Z:g.params[i]? with
       |none=>rw[Z]at J;simp at J
       |some a =>
        cases hb:m.sig.params[i]? with
        |none=>rw[Z,hb]at J;simp at J|some b =>rw[Z,hb]at J;simp only[B8]at J;rw[<-J];exact L.params.2 a (Bs Z)
   obtain⟨s',_,rfl⟩:=Ap.1 hd;exact⟨⟨by simp[Io],by simp[Io]⟩,⟨by simp[Io],by simp[Io]⟩,⟨by simp[Io],by simp[Io]⟩,by simp[Io],mj _,.mk _ _ _ _ _ _ l1 (by simp) (by simp) (by simp) (by simp)⟩
  simp at hd
 split at hd;rw[Pj.1 hd];refine jo _ _ _ _ ⟨by simp,by simp⟩ ⟨?_,λg hg=>?_⟩;rw[B5,B7];omega;rcases Bj.1 hg with hg|hg;obtain⟨c,hc,I⟩:=Md.1 hg;obtain⟨O,_⟩:=V c hc;exact WX (l:=C3 p [] c.on) (c:=c) (λy W=>by rw[O]at W;exact(U y W).params.1) I;obtain⟨s',_,rfl⟩:=Ap.1 hg;exact mj _;simp at hd
def um{f:Ty->List Decl}:∀l:List Ty,(∀x,x∈l->(f x).length<=3*sm)->(l.flatMap f).length<=l.length*(3*sm)
 |[],_=>by simp|x::l,h=>by have J:=h x (by simp);have I:=um l λy E=>h y (by simp[E]);rw[Ww,B5,Bg,Ii];omega
def Bm(p:Prog)(s:Ao):Prog:=⟨Ke::s.types.flatMap (Gn p s.calls),Bt p.main⟩
def dv{p:Prog}(hp:p.count<=600)(hr:p.right=true){s:Ao}(h:s.Fd):(Ke::s.types.flatMap (Gn p s.calls)).length<=1000000000:=by
 have L:=um s.types λx E=>(F6j hp hr h E).1;have J:s.types.length*(3*sm)<=60*(3*sm):=Ih _ (by have:=h.len;omega);rw[Bg];have I:60*(3*sm)=180000000:=by decide
 omega
def yh{p:Prog}(hp:p.count<=600)(hs:p.Sm)(hr:p.right=true):p.main.Nq 240000/\p.main.Rs:=by unfold Prog.right at hr;simp only[Bh]at hr;exact⟨(qB hs.main hr.2).nq (Prog.uI p hp).2,MB hr.2⟩
abbrev EE:=[0,1,2,3,4,5,6,8,17]
def G0m(p:Prog)(hp:p.count<=600)(hr:p.right=true){s:Ao}(h:s.Fd):Ab Tryz.prog 7 [Cs p,Ks s] (Cs (Bm p s)):=by
 have E:=oA p hp;obtain⟨hq,O⟩:=yh hp E.sm hr;have hX:=u9 p.main (v7 (B:=240000) (by decide) E.sm.main hq O);have V:=dv hp hr h;have Z:=h.sm.types.1;unfold Bm;show Ab Tryz.prog 7 [Cs p,Ks s] (.agg [.d (.slice (Bx (Ke::s.types.flatMap (Gn p s.calls)))),.d (.int .i64 (Bt p.main).kind),.d (.str (Bt p.main).name),.d (.str (Bt p.main).type.name),.d (.slice (Au (Bt p.main).type.args)),.d (.int .i64 (Bt p.main).type.pos),.d (.slice (Au (Bt p.main).targs)),.d (.slice (Ed (Bt p.main).kids)),.d (.int .i64 (Bt p.main).pos)]);generalize Bt p.main=e at*;refine cB Tryz.func7 ?_;refine sR EE ?_;refine jA EE [8] (by decide +kernel) λK z=>?_;refine ev ?_;refine cc hX ?_;apply z;refine kR EE λK1 u1=>?_;refine bA (A0.ii s.types (X:=Unit) (λj _=>[(2,.box 2 0),(3,.box 3 0),(4,.box 4 0),(5,.box 5 0),(6,A6 j)]) (λj _=>[(2,.cells ((Ah p).map .d)),(3,.cells (K9 s)),(4,.cells [.d .nil,.d (.int .i64 0),.d (.str []),.d (.str []),.d .nil,.d (.int .i64 0),.d .nil,.d .nil,.d (.int .i64 0)]),(5,.cells (.acc 8::mnS e)),(8,.rows 23 (Bx (Ke::(s.types.take j).flatMap (Gn p s.calls))))]) (λ_ _=>True) () trivial sS ⟨rfl,rfl,rfl,rfl,rfl,trivial⟩ ?_ ?_);rotate_left
 .intro j _ x L J dp tk U _;have W:=(Az.1 L).1;have hT:=ns p hp hr h x J;have e2:Bx (Ke::(s.types.take (j+1)).flatMap (Gn p s.calls))=Bx (Ke::(s.types.take j).flatMap (Gn p s.calls))++Bx (Gn p s.calls x):=by rw[Kj W,(Az.1 L).2,oN];simp[Bx]
  have e3:(Bx (Ke::(s.types.take j).flatMap (Gn p s.calls))).length+(Bx (Gn p s.calls x)).length<=1000000000:=by
   have h1:s.types.flatMap (Gn p s.calls)=(s.types.take (j+1)).flatMap (Gn p s.calls)++(s.types.drop (j+1)).flatMap (Gn p s.calls):=by rw[<-oN,Ue]
   have h2:(s.types.take (j+1)).flatMap (Gn p s.calls)=(s.types.take j).flatMap (Gn p s.calls)++Gn p s.calls x:=by rw[Kj W,(Az.1 L).2,oN];simp
   rw[h1,h2]at V;simp only[Bg,B5]at V;rw[XV,XV,Bg];omega
  have e4:=oV (Gn p s.calls x);rw[e2];generalize Bx (Ke::(s.types.take j).flatMap (Gn p s.calls))=PR at*;generalize Bx (Gn p s.calls x)=DR at*;refine Ag U EE λI u2=>?_;refine gI u2 ?_;refine sK λI u2=>bA ?_;(refine lG EE [] 10 [] λK z=>?_;refine ev ?_;refine ci (Fs L) ?_;refine cc hT ?_;refine⟨e4,by unfold lim;omega,?_⟩;(try refine ev ?_);apply z;try simp only[Aa,Af]);apply u2;refine lT EE ?_;exact⟨(),trivial,sS,by simp[ble,A9,Ah]⟩
 intro _ _;rw[Ca];refine Ag B1 EE λI u2=>?_;refine sE ?_;apply u1;refine A0.Km 8 rfl (wk [(4,.box 4 0),(5,.box 5 0)] [(4,.cells [.d .nil,.d (.int .i64 0),.d (.str []),.d (.str []),.d .nil,.d (.int .i64 0),.d .nil,.d .nil,.d (.int .i64 0)]),(5,.cells (.d (.slice (Bx (Ke::s.types.flatMap (Gn p s.calls))))::mnS e))] ?_);refine sR EE ?_;exact aR
end Go.iA
namespace Go.iA
open Go
structure Pa(p:Prog)(s:Ao):Prop where
 Fe:Typed p
 T8:p.count<=600
 fd:s.Fd
 Bi:vq p s
 gd:s.Gd p
def Pa.of{p:Prog}(E:p.count<=600)(hr:p.right=true)(hp:(Yd p true).bad=false)(h:(Li p).2=true):Pa p (Li p).1 :=⟨.of hr hp,E,H3m (oA p E) (Prog.V4 p E) hr h,H7n h,G6a (.of hr hp)⟩
def wS{f:Ty->List Decl}{P:Decl->Bool}:∀(E:List Ty) {x:Ty} {I:List Ty},(∀y,y∈E->∀d,d∈f y->P d=false)->((E++x::I).flatMap f).find? P=((f x).find? P).or ((I.flatMap f).find? P)
 |[],x,I,_=>by rw[Wv,Ww,List.find?_append]
 |y::E,x,I,h=>by
  rw[Kn,Ww,List.find?_append,wS E λz J=>h z (by simp[J])];have:(f y).find? P=none:=List.find?_eq_none.2 λd hd=>by rw[h y (by simp) d hd];simp
  rw[this];rfl
def G6p{f:Ty->List Decl}{P:Decl->Bool}(l:List Ty)(h:∀y,y∈l->∀d,d∈f y->P d=false):(l.flatMap f).find? P=none :=List.find?_eq_none.2 λd hd=>by obtain⟨y,E,hd⟩:=P4.1 hd;rw[h y E d hd];simp
abbrev Kr(p:Prog)(s:Ao)(x:Ty):List Be:=(Y3 p s.calls x).calls
def T7(p:Prog)(s:Ao)(x:Ty):List A4:=(Kr p s x).filterMap (Hy p)++(C3 p [] x).map Gb
def I8(p:Prog)(s:Ao)(x:Ty):Decl:=if B9 p x 1=true then headD 1 x.mg (G8 (Bc p x)) []else headD 2 x.mg [] (T7 p s x)
def L6(p:Prog)(s:Ao)(x:Ty):List Decl:=if B9 p x 1=true then(Kr p s x).filterMap (J4 Bt p)++(C3 p [] x).map (Io x.mg)else[]
def LP{p:Prog}{x:Ty}(h:B9 p x 1=true):¬B9 p x 2=true:=λE=>by have:=(Pf h).1;have:=(Pf E).1;omega
def Yj{p:Prog}{s:Ao}{x:Ty}(h:Br p [] x=none):Gn p s.calls x=I8 p s x::L6 p s x:=by unfold Gn VQ AP gQ I8 L6 T7;rcases vO h with E|h2;rw[A7 E,A7 E,A7 E,A5 (LP E),Fv];have E:¬B9 p x 1=true:=λI=>LP I h2;rw[A5 E,A5 E,A5 E,A7 h2];rfl
section
variable {p:Prog} {s:Ao} (h:Pa p s)
include h
theorem Pa.sm:p.Sm:=(oA p h.T8).sm
theorem Pa.tl:∀d,d∈p.decls->d.Tl:=Prog.V4 p h.T8
theorem Pa.mg{t:Ty}(ht:t∈s.types):t.Mg:=(h.fd.types t ht).mg
theorem Pa.wf{t:Ty}(ht:t∈s.types):Br p [] t=none:=h.gd.types t ht
theorem F6u{x y:Ty}(O:x∈s.types)(L:y∈s.types)(I:x.er=y.er):x=y:=by obtain⟨i,J,rfl⟩:=List.getElem_of_mem O;obtain⟨j,E,rfl⟩:=List.getElem_of_mem L;have hp:=LG.1 h.Bi.types;rcases qR i j with hlt|rfl|hlt;have:=hp i j J E hlt;have:=(U5 _ _).2 I;omega;rfl;have:=hp j i E J hlt;have:=(U5 _ _).2 I.symm;omega
theorem KV{x y:Ty}(I:x∈s.types)(E:y∈s.types)(J:x.mg=y.mg):x=y:=F6u h I E (j9 (h.mg I) (h.mg E) J)
theorem ei{x:Ty}(O:x∈s.types):∃J I,s.types=J++x::I/\(∀y,y∈J->y.mg≠x.mg)/\∀y,y∈I->y.mg≠x.mg:=by obtain⟨J,I,e⟩:=List.append_of_mem O;have hp:=h.Bi.types;rw[e]at hp;obtain⟨Z,V,U⟩:=sN.1 hp;refine⟨J,I,e,λy E L=>?_,λy E L=>?_⟩;have W:=U y E x (by simp);have:=KV h (by rw[e];simp[E]) O L;subst this;have:=(U5 y y).2 rfl;omega;have W:=(Tm.1 V).1 y E;have:=KV h (by rw[e];simp[E]) O L;subst this;have:=(U5 y y).2 rfl;omega
theorem V3{x:Ty}(E:x∈s.types):∀c,c∈Kr p s x->c.on=x/\c.Ni:=(JV (p:=p) h.fd E).2
theorem Wz{x:Ty}(J:x∈s.types){d:Decl}(hd:d∈L6 p s x):d.name=x.mg/\d.kind=3/\d.vars=[]/\d.A1=[]/\d.sig.A1=[]:=by unfold L6 at hd;split at hd;rcases Bj.1 hd with hd|hd;obtain⟨c,I,E⟩:=Md.1 hd;unfold J4 at E;split at E;cases E;split at E;cases E;cases E;exact⟨by simp only;rw[(V3 h J c I).1],rfl,rfl,rfl,rfl⟩;obtain⟨g,_,rfl⟩:=Ap.1 hd;exact⟨rfl,rfl,rfl,rfl,rfl⟩;simp at hd
omit h in
theorem CI(x:Ty):(I8 p s x).name=x.mg/\((I8 p s x).kind=1\/(I8 p s x).kind=2):=by unfold I8;split;exact⟨rfl,.inl rfl⟩;exact⟨rfl,.inr rfl⟩
theorem YM{x:Ty}(E:x∈s.types){d:Decl}(hd:d∈Gn p s.calls x):d.name=x.mg:=by rw[Yj (h.wf E)]at hd;rcases Ay.1 hd with rfl|hd;exact(CI (p:=p) (s:=s) x).1;exact(Wz h E hd).1
theorem cN{x:Ty}(E:x∈s.types):Ec (Bm p s) x.mg=some (I8 p s x):=by
 obtain⟨J,O,e,L,_⟩:=ei h E;unfold Ec Bm;simp only;have ht:Ke.E5 x.mg=false:=by have:Lb≠x.mg:=mX (h.mg E);unfold Decl.E5;show(_ && decide (Lb=x.mg))=false;rw[Cb this,Tx]
 rw[Y6,ht,e,wS J λy I d hd=>?_,Yj (h.wf E),Y6]
 .have:(I8 p s x).E5 x.mg=true:=by unfold Decl.E5;obtain⟨k1,k2⟩:=CI (p:=p) (s:=s) x;simp only[k1,Xx,EG,U7,Di];exact k2
  rw[this];rfl
 unfold Decl.E5;rw[YM h (by rw[e];simp[I]) hd,Cb (L y I),Tx]
omit h in
theorem IJ:Ec (Bm p s) Lb=some Ke:=by
 unfold Ec Bm;simp only;rw[Y6];have:Ke.E5 Lb=true:=by decide
 rw[this]
theorem ZO{x:Ty}(E:x∈s.types):kindOf (Bm p s) x.mg=if B9 p x 1=true then 1 else 2:=by have:=cN h E;unfold Ec at this;unfold kindOf;rw[this];show(I8 p s x).kind=_;unfold I8;split <;> rfl
theorem hJ{x:Ty}(E:x∈s.types):Dm (Bm p s) x.mg=[]:=by unfold Dm;rw[cN h E];show(I8 p s x).A1=[];unfold I8;split <;> rfl
theorem ZC{x:Ty}(I:x∈s.types)(a:Int){k:Int}(J:k=1\/k=2):B9 (Bm p s) (.mk x.mg [] a) k=B9 p x k:=by
 have O:B9 (Bm p s) (.mk x.mg [] a) k=decide ((if B9 p x 1=true then(1:Int)else 2)=k):=by unfold B9;show(decide (kindOf (Bm p s) x.mg=k) && decide ((Dm (Bm p s) x.mg).length=([]:List Ty).length))=_;rw[ZO h I,hJ h I];simp[B9]
 rw[O];by_cases E:B9 p x 1=true;rw[A7 E];rcases J with rfl|rfl;rw[E];rfl;have:=LP E;simp only[pR]at this;rw[this];rfl;rw[A5 E];have L:=(vO (h.wf I)).resolve_left E;rcases J with rfl|rfl;simp only[pR]at E;rw[E];rfl;rw[L];rfl
theorem kT{x:Ty}(E:x∈s.types)(a:Int):Br (Bm p s) [] (.mk x.mg [] a)=none:=by refine zD.2 (.inr ⟨?_,?_,by simp[Ty.args],?_⟩);show kindOf (Bm p s) x.mg≠0;rw[ZO h E];split <;> decide;show(Dm (Bm p s) x.mg).length=([]:List Ty).length;rw[hJ h E];rfl;show Hn (Bm p s) [] (Dm (Bm p s) x.mg) _<0;rw[hJ h E];exact W4.2 (by simp)
omit h in
theorem bY(a:Int):Br (Bm p s) [] (.mk Lb [] a)=none:=by
 have I:kindOf (Bm p s) Lb=1:=by have:=IJ (p:=p) (s:=s);unfold Ec at this;unfold kindOf;rw[this];rfl
 have E:Dm (Bm p s) Lb=[]:=by unfold Dm;rw[IJ];rfl
 refine zD.2 (.inr ⟨?_,?_,by simp[Ty.args],?_⟩);show kindOf (Bm p s) Lb≠0;rw[I];decide;show(Dm (Bm p s) Lb).length=([]:List Ty).length;rw[E];rfl;show Hn (Bm p s) [] (Dm (Bm p s) Lb) _<0;rw[E];exact W4.2 (by simp)
omit h in
theorem nv(f:Param):Param.subst [] [] f=f:=by cases f;simp[Param.subst,Rn]
theorem ql{x:Ty}(I:x∈s.types)(E:B9 p x 1=true)(a:Int):Bc (Bm p s) (.mk x.mg [] a)=G8 (Bc p x):=by unfold Bc;rw[A7 (by rw[ZC h I a (.inl rfl)];exact E)];show fieldsD ((Ec (Bm p s) x.mg).getD default) (.mk x.mg [] a)=_;rw[cN h I,Dx];unfold fieldsD I8;rw[A7 E];show(G8 (Bc p x)).map (Param.subst [] [])=G8 (if B9 p x 1=true then _ else[]);rw[A7 E,Hb (g:=id) λf _=>nv f,List.map_id];unfold Bc;rw[A7 E];rfl
theorem H7r{x:Ty}(J:x∈s.types)(m:A3):(Bm p s).decls.find? (E2 x.mg m)=(L6 p s x).find? (E2 x.mg m):=by
 obtain⟨U,O,e,V,W⟩:=ei h J;have I:∀y,y∈s.types->y.mg≠x.mg->∀d,d∈Gn p s.calls y->E2 x.mg m d=false:=λy E Z d hd=>by unfold E2;rw[YM h E hd,Cb Z];simp
 unfold Bm;simp only;have ht:E2 x.mg m Ke=false:=by unfold E2;rw[show Ke.kind=1 from rfl];simp
 rw[Y6,ht,e,wS U λy E d hd=>I y (by rw[e];simp[E]) (V y E) d hd,Yj (h.wf J),Y6];have L:E2 x.mg m (I8 p s x)=false:=by unfold E2;have:=(CI (p:=p) (s:=s) x).2;rw[Cb (by omega)];simp
 rw[L,G6p O λy E d hd=>I y (by rw[e];simp[E]) (W y E) d hd];simp
theorem xf{x:Ty}(E:x∈s.types)(J:B9 p x 1=true)(a:Int)(m:A3):L9 (Bm p s) (.mk x.mg [] a) m=(L6 p s x).find? (E2 x.mg m):=by
 unfold L9;rw[A7 (by rw[ZC h E a (.inl rfl)];exact J)];show(match(Bm p s).decls.find? (E2 x.mg m)with
  |some d=>if d.vars.length=([]:List Ty).length then some d else none|none=>none)=_
 rw[H7r h E];cases I:(L6 p s x).find? (E2 x.mg m)with
 |none=>rfl|some d =>have:=Wz h E (vN I);simp[this.2.2.1]
theorem V8{x:Ty}(hx:x∈s.types){c:Be}(hc:c∈Kr p s x):∃g,g∈D7 p [] x/\g.name=c.name/\g.A1.length=c.targs.length/\Hn p [] g.A1 c.targs<0/\(∀t,t∈c.targs->Br p [] t=none)/\Hy p c=some (D5 c g)/\∃E,E∈s.calls/\Cr p [] x E.on=true/\c=⟨x,E.name,E.targs⟩/\Pq p x E=some g:=by
 have hl:=h.fd.len;have hm:c∈Lg p s.calls x:=by obtain⟨_,b2,_⟩:=XM (Lg p s.calls x) ⟨[],[],false⟩ (by simp[U8]) (by have:=oP p s.calls x;simp only[Ck];omega);exact(b2 c hc).elim id λh=>by simp at h
 obtain⟨E,Z,rfl⟩:=Ap.1 hm;obtain⟨Z,hi⟩:=Kp.1 Z;have O:=h.gd.calls E Z;obtain⟨g0,m0,n0,l0,b0⟩:=O.sig;obtain⟨g,mg,eg⟩:=JJ hi g0 m0;obtain⟨e1,e2,_⟩:=Yr eg;have hn:g.name=E.name:=e1.trans n0;have I:g.A1.length=E.targs.length:=by rw[<-l0];have:=F8 List.length e2;simpa using this
 have U:∃k,Fo (C3 p [] x) E.name=(k:Nat)/\(C3 p [] x)[k]?=some g:=by have J:=Mj.2 mg;obtain⟨k,hk⟩:=Lx J;unfold Fo;rcases My (λs:A4=>decide (s.name=E.name)) (C3 p [] x)with⟨_,W⟩|⟨j,y,h1,W,h3⟩;have:=W g J;simp[hn]at this;refine⟨j,h1,?_⟩;have:y=g:=Yu (vM p [] x) (Bs W) J (by simp at h3;rw[h3,hn]);rw[<-this];exact W
 obtain⟨k,V,L⟩:=U;have a0:Pq p x E=some g:=by unfold Pq;rw[V,A5 (by omega),Ic,L];simp only;rw[A7 ⟨I,hi⟩]
 refine⟨g,mg,hn,I,zk eg b0,O.targs,?_,E,Z,hi,rfl,a0⟩;unfold Hy XJ;simp only;rw[V,A5 (by omega),Ic,L,Dx,A7 I]
theorem ub{x:Ty}{E:Be}(O:E∈s.calls)(U:Cr p [] x E.on=true):∃c,c∈Kr p s x/\c.on=x/\c.name=E.name/\c.targs.map Ty.er=E.targs.map Ty.er:=by
 have hl:=h.fd.len;have hm:(⟨x,E.name,E.targs⟩:Be)∈Lg p s.calls x:=Ap.2 ⟨E,Kp.2 ⟨O,U⟩,rfl⟩;obtain⟨_,W,_,J⟩:=XM (Lg p s.calls x) ⟨[],[],false⟩ (by simp[U8]) (by have:=oP p s.calls x;simp only[Ck];omega);obtain⟨c,I,L⟩:=J _ hm;obtain⟨_,V,Z⟩:=XU L;refine⟨c,I,?_,V.symm,Z.symm⟩;have:c∈Lg p s.calls x:=(W c I).elim id λh=>by simp at h
 exact y9 c this
theorem H0o(x:Ty):U8 (Kr p s x):=by have E:=h.fd.len;exact(XM (Lg p s.calls x) ⟨[],[],false⟩ (by simp[U8]) (by have:=oP p s.calls x;simp only[Ck];omega)).1
theorem SF{x:Ty}(J:x∈s.types){g:A4}(L:g∈C3 p [] x):g.Mc:=by have I:=(DE h.sm h.tl h.Fe.right (h.fd.sm.types.2 x J) (h.fd.types x J).args g L).canon;exact⟨λf E=>(I.A1.2 f E).mg,λf E=>(I.params.2 f E).mg,I.result.mg⟩
theorem X1{x:Ty}(L:x∈s.types)(W:B9 p x 1=true){c:Be}(I:c∈Kr p s x):∃d g,L9 p x c.name=some d/\g=d.sig.canon.subst d.vars x.args/\Hy p c=some (D5 c g)/\g.A1.length=c.targs.length /\J4 Bt p c=some ⟨3,x.mg,[],[],[],d.recv,[],⟨(D5 c g).name,[],F7 (D5 c g).params d.sig.params,(D5 c g).result,0⟩,Bt (M4 d x c),0⟩:=by obtain⟨g,U,Z,O,_,_,J,_⟩:=V8 h L I;obtain⟨E,_⟩:=V3 h L c I;obtain⟨d,_,_,_,_,V,hd⟩:=UF W U;rw[Z]at hd;refine⟨d,g,hd,V,J,O,?_⟩;unfold J4;rw[E,hd,J]
def K8(p:Prog)(s:Ao)(x:Ty):List A4:=if B9 p x 1=true then(L6 p s x).map (·.sig)else T7 p s x
omit h in
theorem zh(ps qs:List Param)(I:ps.length<=qs.length):(F7 ps qs).map (·.type)=ps.map (·.type):=by
 apply Kx;intro i;simp only[F7,Df,GW];cases E:ps[i]? with
 |none=>rfl
 |some a =>
  have:i<qs.length:=by have:=(Az.1 E).1;omega
  rw[Bu this];rfl
theorem CE{x:Ty}(V:x∈s.types){w:A4}:w∈K8 p s x↔(∃c g,c∈Kr p s x/\Hy p c=some (D5 c g)/\g∈D7 p [] x/\g.name=c.name/\(if B9 p x 1=true then ∃d,L9 p x c.name=some d/\w=⟨(D5 c g).name,[],F7 (D5 c g).params d.sig.params,(D5 c g).result,0⟩else w=D5 c g))\/∃g,g∈C3 p [] x/\w=Gb g:=by unfold K8;by_cases L:B9 p x 1=true;rw[A7 L];simp only[A7 L];unfold L6;rw[A7 L,Gy,Bj];constructor;rintro(hw|hw);obtain⟨d,hd,rfl⟩:=Ap.1 hw;obtain⟨c,E,hm⟩:=Md.1 hd;obtain⟨d',g,W,e2,e3,e4,U⟩:=X1 h V L E;rw[hm]at U;cases U;obtain⟨g',Z,g2,_,_,_,J,_⟩:=V8 h V E;refine .inl ⟨c,g',E,J,Z,g2,d',W,?_⟩;rw[e3]at J;rw[Tf J];obtain⟨d,hd,rfl⟩:=Ap.1 hw;obtain⟨g,I,rfl⟩:=Ap.1 hd;exact .inr ⟨g,I,rfl⟩;rintro(⟨c,g,E,O,_,_,d,hd,rfl⟩|⟨g,I,rfl⟩);obtain⟨d',g',W,_,e3,_,U⟩:=X1 h V L E;rw[W]at hd;cases hd;rw[e3]at O;refine .inl (Ap.2 ⟨_,Md.2 ⟨c,E,U⟩,?_⟩);simp only;rw[Tf O];exact .inr (Ap.2 ⟨Io x.mg g,Ap.2 ⟨g,I,rfl⟩,rfl⟩);rw[A5 L];simp only[A5 L];unfold T7;rw[Bj];constructor;rintro(hw|hw);obtain⟨c,E,O⟩:=Md.1 hw;obtain⟨g,Z,g2,_,_,_,J,_⟩:=V8 h V E;refine .inl ⟨c,g,E,J,Z,g2,?_⟩;rw[O]at J;exact Tf J;obtain⟨g,I,rfl⟩:=Ap.1 hw;exact .inr ⟨g,I,rfl⟩;rintro(⟨c,g,E,O,_,_,rfl⟩|⟨g,I,rfl⟩);exact .inl (Md.2 ⟨c,E,O⟩);exact .inr (Ap.2 ⟨g,I,rfl⟩)
theorem NM{x:Ty}(I:x∈s.types){w:A4}(J:w∈K8 p s x):w.A1=[]:=by rcases(CE h I).1 J with⟨c,g,_,_,_,_,E⟩|⟨g,_,rfl⟩;split at E;obtain⟨d,_,rfl⟩:=E;rfl;rw[E];rfl;rfl
end
def DU{α β:Type}{f:α->Option β}{R:α->α->Prop}{S:β->β->Prop}(E:∀a b x y,R a b->f a=some x->f b=some y->S x y):∀{l:List α},l.Pairwise R->(l.filterMap f).Pairwise S
 |[],_=>by simp
 |a::l,hp=>by
  obtain⟨W,O⟩:=Tm.1 hp;have J:=DU E O;cases I:f a with
  |none=>rw[List.filterMap_cons_none I];exact J|some x =>rw[List.filterMap_cons_some I];refine Tm.2 ⟨λy V=>?_,J⟩;obtain⟨b,U,L⟩:=Md.1 V;exact E a b x y (W b U) I L
section
variable {p:Prog} {s:Ao} (h:Pa p s)
include h
theorem l9{x:Ty}(I:x∈s.types):(Kr p s x).Pairwise λa b=>Gm a.name a.targs≠Gm b.name b.targs:=by
 have E:=H0o h x;unfold U8 at E;refine List.Pairwise.imp_of_mem ?_ E;intro a b O hb a0 U;obtain⟨a1,a2⟩:=V3 h I a O;obtain⟨b1,b2⟩:=V3 h I b hb;obtain⟨J,Z⟩:=uc (λt ht=>(a2.targs t ht).mg) (λt ht=>(b2.targs t ht).mg) U;have:E8 a b=0:=by
  have L:Er a.on b.on=0:=by rw[a1,b1];exact(U5 x x).2 rfl
  have V:Bw a.name b.name=0:=To.2 J;have W:Er (.mk [] a.targs 0) (.mk [] b.targs 0)=0:=(U5 _ _).2 (by rw[Gv,Gv];simp only[Ty.name,Ty.args];rw[Z]);unfold E8;rw[A7 L,A7 V,W]
 omega
theorem F5c{x:Ty}(J:x∈s.types):(C3 p [] x).Pairwise λa b=>L7 a≠L7 b:=by have I:=vM p [] x;unfold List.Nodup at I;rw[List.pairwise_map]at I;refine List.Pairwise.imp_of_mem ?_ I;intro a b L U E O;exact E (pj (SF h J L) (SF h J U) O).1
theorem dV{x:Ty}(L:x∈s.types):((K8 p s x).map (·.name)).Nodup:=by
 have key:∀l:List A4,(l.Pairwise λa b=>a.name≠b.name)->(∀w,w∈l->∃c,c∈Kr p s x/\w.name=Gm c.name c.targs)->((l++(C3 p [] x).map Gb).map (·.name)).Nodup:=by intro l hl U;unfold List.Nodup;rw[List.pairwise_map,sN];refine⟨hl,?_,λa I b J he=>?_⟩;rw[List.pairwise_map];exact F5c h L;obtain⟨c,Z,hn⟩:=U a I;obtain⟨g,hg,rfl⟩:=Ap.1 J;refine US (SF h L hg) (n:=c.name) (l:=c.targs) (λt ht=>((V3 h L c Z).2.targs t ht).mg) ?_;rw[<-hn];exact he.symm
 unfold K8;by_cases V:B9 p x 1=true;rw[A7 V];unfold L6;rw[A7 V,Gy,Dn];have e:((λd:Decl=>d.sig) ∘ Io x.mg)=Gb:=rfl;rw[e];refine key _ ?_ λw hw=>?_;rw[List.pairwise_map];refine DU (R:=λa b=>(a∈Kr p s x/\b∈Kr p s x)/\Gm a.name a.targs≠Gm b.name b.targs) (λa b x' y' E I J=>?_) (List.Pairwise.imp_of_mem (λI J W=>⟨⟨I,J⟩,W⟩) (l9 h L));obtain⟨_,_,_,_,_,_,O⟩:=X1 h L V E.1.1;obtain⟨_,_,_,_,_,_,f5⟩:=X1 h L V E.1.2;rw[O]at I;rw[f5]at J;cases I;cases J;exact E.2;obtain⟨d,hd,rfl⟩:=Ap.1 hw;obtain⟨c,U,hm⟩:=Md.1 hd;obtain⟨_,_,_,_,_,_,O⟩:=X1 h L V U;rw[hm]at O;cases O;exact⟨c,U,rfl⟩;rw[A5 V];unfold T7;refine key _ ?_ λw hw=>?_;refine DU (R:=λa b=>(a∈Kr p s x/\b∈Kr p s x)/\Gm a.name a.targs≠Gm b.name b.targs) (λa b x' y' E I J=>?_) (List.Pairwise.imp_of_mem (λI J W=>⟨⟨I,J⟩,W⟩) (l9 h L));obtain⟨_,_,_,_,_,_,O,_⟩:=V8 h L E.1.1;obtain⟨_,_,_,_,_,_,f5,_⟩:=V8 h L E.1.2;rw[O]at I;rw[f5]at J;cases I;cases J;exact E.2;obtain⟨c,U,hm⟩:=Md.1 hw;obtain⟨_,_,_,_,_,_,O,_⟩:=V8 h L U;rw[hm]at O;cases O;exact⟨c,U,rfl⟩
end
def pE(g:A4):A4:=⟨g.name,[],g.params.map (λf=>⟨[],f.type.er,0⟩),g.result.er,0⟩
abbrev N3(g:A4):A4:=g.canon.subst [] []
def ng{g:A4}(h:g.A1=[]):g.canon=⟨g.name,[],g.params.map (λf=>⟨[],f.type,f.pos⟩),g.result,g.pos⟩:=by
 unfold A4.canon I2 J0;rw[h];have e:Dv ([]:List Aj).length=[]:=rfl;have I:Ad ([]:List Aj)=[]:=rfl;rw[e,I];simp only[Rn,List.mapIdx_nil]
 congr 1
 apply Kx;intro i;rw[Px,Df];cases E:g.params[i]? with
 |none=>rfl|some f =>have:=(Az.1 E).1;simp only[Em,A7 this]
def wo{g:A4}(h:g.A1=[]):N3 g=⟨g.name,[],g.params.map (λf=>⟨[],f.type,f.pos⟩),g.result,g.pos⟩:=by
 unfold N3;rw[ng h];simp only[A4.subst,G5,Dn,Rn]
 congr 1
 exact Hb λf _=>by simp[Param.subst,Rn]
def zS{g:A4}(h:g.A1=[]):(N3 g).canon.er=pE g/\(N3 g).er=pE g:=by have e:=wo h;rw[ng (g:=N3 g) (by rw[e]),e];simp only[A4.er,pE,Dn,G5];exact⟨rfl,rfl⟩
def H1f{P:Prog}{x:Ty}(L:B9 P x 1=true){w:A4}:w∈D7 P [] x↔∃d,L9 P x d.sig.name=some d/\w=d.sig.canon.subst d.vars x.args:=by
 constructor;intro W;obtain⟨d,_,_,_,_,O,hd⟩:=UF L W;refine⟨d,?_,O⟩;rw[O]at hd;exact hd
 .rintro⟨d,hd,rfl⟩;have h2:¬B9 P x 2=true:=LP L;unfold D7;rw[dD];simp only[jC,Uj,Iu,Gi];rw[A5 h2];obtain⟨_,hk,_,V⟩:=Vq hd;rcases cR P x d.sig.name with⟨_,I⟩|⟨j,d',Z,J,I⟩;rw[I]at hd;cases hd;rw[hd]at I;cases I;have E:d.name=x.name:=by unfold L9 at hd;rw[A7 L]at hd;split at hd;rename_i d' U;split at hd;cases hd;have:=oR U;unfold E2 at this;simp only[Bh,Di]at this;exact this.1.2;cases hd;cases hd
  unfold Hf;refine Ap.2 ⟨(d,j),Kp.2 ⟨?_,?_⟩,rfl⟩;rw[Ca];exact List.mem_zipIdx_iff_getElem?.2 J;unfold Jm;simp only[hk,E,Z,Xx,EG]
def H2v{v:List A3}{a:List Ty}{l:List A4}(hn:(l.map (·.name)).Nodup){w:A4}:w∈Im v a l l.length↔∃y,y∈l/\w=y.canon.subst v a:=by
 unfold Im;rw[Ca];constructor;intro U;obtain⟨⟨y,i⟩,I,rfl⟩:=Ap.1 U;exact⟨y,Xr (Kp.1 I).1,rfl⟩
 .rintro⟨y,I,rfl⟩;obtain⟨i,L⟩:=Lx I;refine Ap.2 ⟨(y,i),Kp.2 ⟨List.mem_zipIdx_iff_getElem?.2 L,?_⟩,rfl⟩;unfold Qt;rw[Di];intro z O W;obtain⟨j,E⟩:=Lx O;rw[tE]at E;split at E
  .rename_i Z;have J:(l.map (·.name))[j]?=some z.name:=by rw[Df,E];rfl
   have V:(l.map (·.name))[i]?=some y.name:=by rw[Df,L];rfl
   rw[W]at J;have:=(List.getElem?_inj (i:=j) (j:=i) (by have:=(Az.1 J).1;exact this) hn).1 (J.trans V.symm);omega
  cases E
def qe{nm:A3}:∀{l:List Decl},(∀d,d∈l->d.kind=3/\d.name=nm)->(l.map (λd=>d.sig.name)).Nodup->∀{d:Decl},d∈l->l.find? (E2 nm d.sig.name)=some d
 |[],_,_,d,hd=>by simp at hd
 |e::l,J,I,d,hd=>by
  rw[Cj,Vm]at I;rw[Y6];rcases Ay.1 hd with rfl|hd
  .have:E2 nm d.sig.name d=true:=by unfold E2;obtain⟨U,L⟩:=J d (by simp);simp[U,L]
   rw[this]
  .have E:e.sig.name≠d.sig.name:=λO=>I.1 (by rw[O];exact Ap.2 ⟨d,hd,rfl⟩);have:E2 nm d.sig.name e=false:=by unfold E2;rw[Cb E,Tx]
   rw[this];exact qe (λd hd=>J d (by simp[hd])) I.2 hd
def ry{l m:List Aj}(U:Ad l=Ad m)(O:l.map (λf=>f.bound.er)=m.map (λf=>f.bound.er)):l.map Aj.er=m.map Aj.er:=by
 apply Kx;intro i;have E:(Ad l)[i]?=(Ad m)[i]?:=by rw[U]
 have I:(l.map (λf=>f.bound.er))[i]?=(m.map (λf=>f.bound.er))[i]?:=by rw[O]
 simp only[Ad,Df]at E I |-;cases L:l[i]? with
 |none =>
  rw[L]at E;cases J:m[i]? with
  |none=>rfl|some b=>rw[J]at E;simp at E
 |some a =>
  rw[L]at E I;cases J:m[i]? with
  |none=>rw[J]at E;simp at E|some b =>rw[J]at E I;simp only[Em,B8]at E I |-;unfold Aj.er;rw[E,I]
def G9s{l m:List Param}(O:∀f,f∈l->f.name=[])(E:∀f,f∈m->f.name=[])(J:l.map (λf=>f.type.er)=m.map (λf=>f.type.er)):l.map Param.er=m.map Param.er:=by
 have key:∀k:List Param,(∀f,f∈k->f.name=[])->k.map Param.er=(k.map (λf=>f.type.er)).map λt=>(⟨[],t,0⟩:Param):=λk L=>by rw[Dn];exact Hb λf I=>by unfold Param.er;rw[L f I];rfl
 rw[key l O,key m E,J]
def nZ{s:A4}:∀f,f∈s.canon.params->f.name=[]:=λf E=>by unfold A4.canon J0 at E;obtain⟨i,y,I,_,rfl⟩:=mem_mapIdx E;have:=(Az.1 I).1;simp only[A7 this]
def H2y{v w:A4}(O:v.name=w.name)(E:v.canon.A1.map (λf=>f.bound.er)=w.canon.A1.map (λf=>f.bound.er))(J:v.canon.params.map (λf=>f.type.er)=w.canon.params.map (λf=>f.type.er))(L:v.canon.result.er=w.canon.result.er):v.canon.er=w.canon.er:=by
 have I:v.canon.A1.length=w.canon.A1.length:=by have:=F8 List.length E;simpa using this
 have U:Ad v.canon.A1=Ad w.canon.A1:=by rw[(FK v).fs,(FK w).fs,I]
 unfold A4.er;rw[ry U E,G9s nZ nZ J,L];have:v.canon.name=w.canon.name:=O;rw[this]
def G0p{v w:A4}(O:v.name=w.name)(h:v.canon.er=w.canon.er):L7 v=L7 w:=by
 obtain⟨_,U,J,L⟩:=Yr h;have f1:v.canon.A1.map (λf=>f.bound.mg)=w.canon.A1.map (λf=>f.bound.mg):=by
  have:∀k:List Aj,k.map (λf=>f.bound.mg)=(k.map Aj.er).map λf=>f.bound.mg:=λk=>by rw[Dn];exact Hb λf _=>(GO f.bound).symm
  rw[this v.canon.A1,this w.canon.A1,U]
 have f2:v.canon.params.map (λf=>f.type.mg)=w.canon.params.map (λf=>f.type.mg):=by
  have:∀k:List Param,k.map (λf=>f.type.mg)=(k.map Param.er).map λf=>f.type.mg:=λk=>by rw[Dn];exact Hb λf _=>(GO f.type).symm
  rw[this v.canon.params,this w.canon.params,J]
 have E:∀k:List Aj,Jx k=(k.map (λf=>f.bound.mg)).flatMap λz=>z++[95,66]:=λk=>by simp[Jx,List.flatMap_map]
 have I:∀k:List Param,Kd k=(k.map (λf=>f.type.mg)).flatMap λz=>z++[95,80]:=λk=>by simp[Kd,List.flatMap_map]
 unfold L7;rw[O,E,E,I,I,f1,f2,Vp L]
def o8{c d:Be}{g k:A4}(h:g.er=k.er)(W:c.name=d.name)(I:c.targs.map Ty.er=d.targs.map Ty.er):D5 c g=D5 d k:=by
 obtain⟨_,O,U,V⟩:=Yr h;have L:Ad g.A1=Ad k.A1:=by rw[<-Tv g.A1,O,Tv]
 have Z:Gm c.name c.targs=Gm d.name d.targs:=by rw[W,Gm,Gm,YY I]
 have hr:Ej (g.result.subst (Ad g.A1) c.targs)=Ej (k.result.subst (Ad k.A1) d.targs):=SD (by rw[Gu,Gu,L,I,V]);have hp:Ge (g.params.map (Param.subst (Ad g.A1) c.targs))=Ge (k.params.map (Param.subst (Ad k.A1) d.targs)):=by
  unfold Ge;refine Kx λi=>?_;have:=F8 (λl=>l[i]?) U;simp only[Df]at this;simp only[Px,Df,Option.map_map];cases J:g.params[i]? with
  |none =>
   cases E:k.params[i]? with
   |none=>rfl|some b=>rw[J,E]at this;simp at this
  |some a =>
   cases E:k.params[i]? with
   |none=>rw[J,E]at this;simp at this
   |some b =>
    rw[J,E]at this;simp only[Em,B8]at this;have ht:a.type.er=b.type.er:=by have:=F8 Param.type this;simpa [Param.er]using this
    simp only[Em,Function.comp,Param.subst]
    congr 2
    exact SD (by rw[Gu,Gu,L,I,ht])
 unfold D5;rw[Z,hr,hp]
section
variable {p:Prog} {s:Ao} (h:Pa p s)
include h
theorem cJ{x:Ty}(I:x∈s.types)(a:Int){w:A4}:w∈D7 (Bm p s) [] (.mk x.mg [] a)↔∃g,g∈K8 p s x/\w=N3 g:=by
 have E:=dV h I;by_cases J:B9 p x 1=true
 .rw[H1f (by rw[ZC h I a (.inl rfl)];exact J)];unfold K8 at E |-;rw[A7 J]at E |-;rw[Dn]at E;constructor
  rintro⟨d,hd,rfl⟩;rw[xf h I J]at hd;have L:=vN hd;refine⟨d.sig,Ap.2 ⟨d,L,rfl⟩,?_⟩;rw[(Wz h I L).2.2.1];rfl;rintro⟨g,V,rfl⟩;obtain⟨d,hd,rfl⟩:=Ap.1 V;refine⟨d,?_,?_⟩;rw[xf h I J];exact qe (λd hd=>⟨(Wz h I hd).2.1,(Wz h I hd).1⟩) E hd;rw[(Wz h I hd).2.2.1];rfl
 .have U:=(vO (h.wf I)).resolve_left J;have O:isIface (Bm p s) [] (.mk x.mg [] a)=true:=by unfold isIface;rw[ZC h I a (.inr rfl),U,dD];rfl
  rw[PL O];unfold Hj;rw[A7 (by rw[ZC h I a (.inr rfl)];exact U)];show w∈Xh ((Ec (Bm p s) x.mg).getD default) (.mk x.mg [] a)↔_;rw[cN h I,Dx];unfold I8 Xh K8;rw[A5 J,A5 J];unfold K8 at E;rw[A5 J]at E;exact H2v E
theorem qU{x:Ty}(hx:x∈s.types){w:A4}(O:w∈K8 p s x):(∃c g,c∈Kr p s x/\Hy p c=some (D5 c g)/\g∈D7 p [] x/\g.name=c.name/\w.name=(D5 c g).name/\pE w=pE (D5 c g))\/∃g,g∈C3 p [] x/\w=Gb g:=by
 rcases(CE h hx).1 O with⟨c,g,Z,U,J,I,hh⟩|hh
 .refine .inl ⟨c,g,Z,U,J,I,?_⟩;split at hh
  .rename_i W;obtain⟨d,hd,rfl⟩:=hh;refine⟨rfl,?_⟩;obtain⟨d',_,_,_,_,V,E⟩:=UF W J;rw[I,hd]at E;cases E;have L:(D5 c g).params.length<=d.sig.params.length:=by show(Ge _).length<=_;rw[DH,B7,V];simp only[A4.subst,B7,A4.canon,Yp];exact Bv _
   have:=zh (D5 c g).params d.sig.params L;unfold pE;simp only
   congr 1
   have e:∀k:List Param,k.map (λf=>(⟨[],f.type.er,0⟩:Param))=(k.map (·.type)).map λt=>⟨[],t.er,0⟩:=λk=>by rw[Dn];rfl
   rw[e,e,this]
  rw[hh];exact⟨rfl,rfl⟩
 exact .inr hh
theorem rh{x:Ty}(E:x∈s.types){c:Be}(I:c∈Kr p s x):∃w g,w∈K8 p s x/\Hy p c=some (D5 c g)/\g∈D7 p [] x/\g.name=c.name/\w.name=(D5 c g).name/\pE w=pE (D5 c g):=by
 obtain⟨g,J,L,g3,_,_,V,_⟩:=V8 h E I;have U:∃w,w∈K8 p s x/\w.name=(D5 c g).name:=by by_cases W:B9 p x 1=true;obtain⟨d,_,_,_,_,_,O⟩:=UF W J;rw[L]at O;exact⟨⟨(D5 c g).name,[],F7 (D5 c g).params d.sig.params,(D5 c g).result,0⟩,(CE h E).2 (.inl ⟨c,g,I,V,J,L,by rw[A7 W];exact⟨d,O,rfl⟩⟩),rfl⟩;exact⟨_,(CE h E).2 (.inl ⟨c,g,I,V,J,L,by rw[A5 W]⟩),rfl⟩
 obtain⟨w,U,Z⟩:=U;refine⟨w,g,U,V,J,L,Z,?_⟩;rcases qU h E U with⟨c',g',k1,k2,k3,k4,k5,k6⟩|⟨g',k1,rfl⟩;rw[Z]at k5;obtain⟨e1,e2⟩:=uc (λt ht=>((V3 h E c I).2.targs t ht).mg) (λt ht=>((V3 h E c' k1).2.targs t ht).mg) k5;have:g'=g:=Yu (kF p [] x) k3 J (by rw[k4,L,e1]);subst this;rw[k6,o8 rfl e1.symm e2.symm];exact absurd Z (US (SF h E k1) λt ht=>((V3 h E c I).2.targs t ht).mg)
theorem nz{x y:Ty}(L:x∈s.types)(J:y∈s.types)(a b:Int):Cr (Bm p s) [] (.mk x.mg [] a) (.mk y.mg [] b)=Cr p [] x y:=by
 by_cases hi:B9 p y 2=true
 .have I:isIface (Bm p s) [] (.mk y.mg [] b)=true:=by unfold isIface;rw[ZC h J b (.inr rfl),hi,dD];rfl
  have E:isIface p [] y=true:=by unfold isIface;rw[hi,dD];rfl
  rw[iC];have e1:Cr (Bm p s) [] (.mk x.mg [] a) (.mk y.mg [] b)=true↔∀w,w∈D7 (Bm p s) [] (.mk y.mg [] b)->∃v,v∈D7 (Bm p s) [] (.mk x.mg [] a)/\v.name=w.name/\v.canon.er=w.canon.er:=by unfold Cr;rw[A7 I,Di];exact LH
  have e2:Cr p [] x y=true↔∀w,w∈D7 p [] y->∃v,v∈D7 p [] x/\v.name=w.name/\v.canon.er=w.canon.er:=by unfold Cr;rw[A7 E,Di];exact LH
  constructor;intro hq;refine e2.2 λw hw=>?_;have O:=Mj.2 hw;obtain⟨v,hv,hn,_⟩:=e1.1 hq (N3 (Gb w)) ((cJ h J b).2 ⟨Gb w,(CE h J).2 (.inr ⟨w,O,rfl⟩),rfl⟩);obtain⟨g,Z,rfl⟩:=(cJ h L a).1 hv;have hn:g.name=L7 w:=hn;rcases qU h L Z with⟨c,U,k1,k2,k3,k4,k5,_⟩|⟨U,k1,rfl⟩;rw[hn]at k5;exact absurd k5 (US (SF h J O) λt ht=>((V3 h L c k1).2.targs t ht).mg);obtain⟨d1,d2,d3,d4⟩:=pj (SF h L k1) (SF h J O) hn;exact⟨U,Mj.1 k1,d1,H2y d1 d2 d3 d4⟩
  .intro hp;refine e1.2 λw hw=>?_;obtain⟨g,Z,rfl⟩:=(cJ h J b).1 hw;rcases qU h J Z with⟨c,gy,k1,k2,k3,k4,k5,k6⟩|⟨U,k1,rfl⟩;obtain⟨a0,y1,y2,_,_,_,_,c0,c1,c2,rfl,_⟩:=V8 h J k1;obtain⟨cx,m1,m2,m3,m4⟩:=ub h (x:=x) c1 (Zw hp c2);obtain⟨w',gx,w1,w2,w3,w4,w5,w6⟩:=rh h L m1;obtain⟨v,v1,v2⟩:=JJ hp gy k3;have:v=gx:=Yu (kF p [] x) v1 w3 (by rw[w4,m3,(Yr v2).1,k4]);subst this;have V:D5 cx v=D5 ⟨y,c0.name,c0.targs⟩ gy:=o8 v2 m3 m4;refine⟨N3 w',(cJ h L a).2 ⟨w',w1,rfl⟩,?_,?_⟩;show w'.name=g.name;rw[w5,k5,V];rw[(zS (NM h L w1)).1,(zS (NM h J Z)).1,w6,k6,V]
   .obtain⟨v,v1,v2,v3⟩:=e2.1 hp U (Mj.1 k1);have hd:Gb v=Gb U:=by unfold Gb;rw[G0p v2 v3]
    exact⟨N3 (Gb v),(cJ h L a).2 ⟨Gb v,(CE h L).2 (.inr ⟨v,Mj.2 v1,rfl⟩),rfl⟩,by rw[hd],by rw[hd]⟩
 .have I:¬isIface (Bm p s) [] (.mk y.mg [] b)=true:=by unfold isIface;rw[ZC h J b (.inr rfl),Bh];exact λhh=>hi hh.1
  have E:¬isIface p [] y=true:=by unfold isIface;rw[Bh];exact λhh=>hi hh.1
  unfold Cr;rw[A5 I,A5 E,iC,Ut,Ut];constructor;intro W;rw[Gv,Gv]at W;exact j9 (h.mg L) (h.mg J) (by simpa [Ty.name]using F8 Ty.name W);intro W;rw[Gv,Gv];simp only[Ty.name,Ty.args,G5];rw[Vp W]
end
def F6a{a b:Be}(I:a.on.er=b.on.er)(E:a.name=b.name)(J:a.targs.map Ty.er=b.targs.map Ty.er):E8 a b=0:=by unfold E8;rw[A7 ((U5 _ _).2 I),A7 (To.2 E)];grind[U5,Gv,Rr,Ig]
theorem G4.er{t u:Ty}{l:List Ty}(h:t.er=u.er)(k:G4 t l):G4 u l:=by obtain⟨w,E,e⟩:=k;exact⟨w,E,h.symm.trans e⟩
theorem dC.er{c d:Be}{l:List Be}(h:E8 c d=0)(k:dC c l):dC d l:=by obtain⟨w,E,e⟩:=k;exact⟨w,E,oy (G5e h) e⟩
def xK{y:Ex}:∀{l:List Ex},y∈Cx l↔∃k,k∈l/\y∈B3 k
 |[]=>by simp[Cx]|a::l=>by rw[Cx,Bj,xK];simp
def fU{e y:Ex}:y∈B3 e↔y=e\/∃k,k∈e.kids/\y∈B3 k:=by rw[L0,Ay,xK]
mutual
theorem BR(v:List A3)(a:List Ty):∀e:Ex,B3 (e.subst v a)=(B3 e).map (Ex.subst v a)
 |.mk k n t l ks q=>by rw[Qi,B3,B3,Cj,Qi v a (.mk k n t l ks q)];have:(Ex.mk k n t l ks q).kids=ks:=rfl;rw[this,ug v a ks]
theorem ug(v:List A3)(a:List Ty):∀l:List Ex,Cx (l.map (Ex.subst v a))=(Cx l).map (Ex.subst v a)
 |[]=>rfl|e::l=>by rw[Cj,Cx,Cx,Gy,BR v a e,ug v a l]
end
def bR{l m:List Param}(h:l.map (·.name)=m.map (·.name))(nm:A3):Gp l nm=Gp m nm:=by
 have key:∀l:List Param,l.findIdx? (λf=>decide (f.name=nm))=(l.map (·.name)).findIdx? (λs=>decide (s=nm)):=λl=>by rw[List.findIdx?_map];rfl
 grind[Gp,E3]
def VE(V1 E:List Param):Prop:=V1.map (λf=>(f.name,f.type.er))=E.map (λf=>(f.name,f.type.er))
theorem VE.names{V1 E:List Param}(h:VE V1 E):V1.map (·.name)=E.map (·.name):=by have:=F8 (List.map Prod.fst) h;rw[Dn,Dn]at this;exact this
theorem kb{l:List Ty}{v:List A3}{a b:List Ty}(E:a.map Ty.er=b.map Ty.er):(l.map (Ty.subst v a)).map Ty.er=(l.map (Ty.subst v b)).map Ty.er:=by grind[List.map_congr_left,Gu]
theorem ek(v:List A3)(a:List Ty)(e:Ex):(e.subst v a).kind=e.kind:=by rw[Qi];rfl
theorem en(v:List A3)(a:List Ty)(e:Ex):(e.subst v a).name=e.name:=by rw[Qi];rfl
theorem et(v:List A3)(a:List Ty)(e:Ex):(e.subst v a).type=e.type.subst v a:=by rw[Qi];rfl
theorem eg(v:List A3)(a:List Ty)(e:Ex):(e.subst v a).targs=e.targs.map (Ty.subst v a):=by rw[Qi];rfl
def es(v:List A3)(a:List Ty)(e:Ex):(e.subst v a).kids=e.kids.map (Ex.subst v a):=by rw[Qi];rfl
theorem xU{l m:List Aj}(h:l.map Aj.er=m.map Aj.er):Ad l=Ad m:=by grind[Tv]
def F8m{p:Prog}{st:Bool}{V1 V2:List Param}(hV:VE V1 V2){v:List A3}{a b:List Ty}(a4:a.map Ty.er=b.map Ty.er) :∀(e:Ex) (t t':Ty),Dc ⟨p,st,[],V1⟩ (e.subst v a)=(t,none)->Dc ⟨p,st,[],V2⟩ (e.subst v b)=(t',none)->t.er=t'.er:=by
 intro e;induction e using Ex.induct with|_ e ih=>?_;intro t t' h J;rcases Jc.1 h with⟨k1,k,f,I,O,rfl⟩|⟨k1,_,_,_,rfl⟩|⟨w,ws,x,Z,hx,h⟩
 .rw[ek]at k1;rcases Jc.1 J with⟨_,k',f',L,W,rfl⟩|⟨k2,_⟩|⟨_,_,_,_,_,k2|k2|k2⟩
  .rw[en]at I L;simp only at I O L W;rw[bR hV.names]at I;have:k=k':=by omega
   subst this;obtain⟨y,hy,e⟩:=Wq hV O;grind
  rw[ek]at k2;omega;all_goals grind[ek]
 .rw[ek]at k1;rcases Jc.1 J with⟨k2,_⟩|⟨_,_,_,_,rfl⟩|⟨_,_,_,_,_,k2|k2|k2⟩;rw[ek]at k2;omega;grind[et,Gu];all_goals grind[ek]
 .rcases Jc.1 J with⟨k2,_⟩|⟨k2,_⟩|⟨w',a5,x',E,a1,J⟩;grind[ek];grind[ek]
  .rw[es]at Z E;cases a2:e.kids with
   |nil=>grind
   |cons q qs =>
    rw[a2]at Z E;simp at Z E;obtain⟨rfl,rfl⟩:=Z;obtain⟨rfl,rfl⟩:=E;have U:=ih q (by grind) x x' hx a1;rcases h with⟨k1,s,hs,_,rfl⟩|⟨k1,_,k,f,I,O,rfl⟩|⟨k1,_,_,rfl⟩;rcases J with⟨_,s',a0,_,rfl⟩|⟨k2,_⟩|⟨k2,_⟩;obtain⟨s1,s2,_⟩:=Wa.1 hs;obtain⟨L,W,_⟩:=Wa.1 a0;obtain⟨s3,m3,e3⟩:=SP U s1;have a3:=Yr e3;grind[en,Yu,kF,Gu,xU,eg,kb];rw[ek]at k1 k2;omega;rw[ek]at k1 k2;omega
    .rcases J with⟨k2,_⟩|⟨_,_,k',f',L,W,rfl⟩|⟨k2,_⟩;rw[ek]at k1 k2;omega
     .have V:=JE (p:=p) U;have hn:(Bc p x).map (·.name)=(Bc p x').map (·.name):=by have:=F8 (List.map Param.name) V;simpa [Dn,Param.er,Function.comp_def]using this
      rw[en]at I L;simp only at I O L W;rw[bR hn]at I;have:k=k':=by omega
      subst this;obtain⟨y,hy,e⟩:=Wq V O;rw[W]at hy;cases hy;have:=F8 Param.type e;grind[Param.er]
     rw[ek]at k1 k2;omega
    grind[ek,et,Gu]
def YP(p:Prog)(vars:List Param)(y:Ex)(E:List Ty)(cs:List Be):Prop :=(y.kind=3\/y.kind=5->G4 y.type E)/\∀v vs,y.kind=2->y.kids=v::vs->∀K,Dc ⟨p,false,[],vars⟩ v=(K,none)->G4 K E/\dC ⟨K,y.name,y.targs⟩ cs
def YP.sub{p:Prog}{V1 V:List Param}(hV:VE V1 V){v:List A3}{a b:List Ty}(I:a.map Ty.er=b.map Ty.er){y:Ex}{U:List Ty}{cs:List Be}(h:YP p V1 (y.subst v a) U cs)(hk:∀q,q∈(y.subst v a).kids->∃K,Dc ⟨p,false,[],V1⟩ q=(K,none)) :YP p V (y.subst v b) U cs:=by
 refine⟨λk=>?_,λw ws k2 J K W=>?_⟩;rw[ek]at k;have:=h.1 (by rw[ek];exact k);refine this.er ?_;grind[et,Gu]
 .rw[ek]at k2;rw[es]at J;cases E:y.kids with
  |nil=>grind|cons q qs =>rw[E]at J;simp at J;obtain⟨rfl,rfl⟩:=J;obtain⟨L,u1⟩:=hk (q.subst v a) (by rw[es,E];simp);obtain⟨Z,g2⟩:=h.2 (q.subst v a) (qs.map (Ex.subst v a)) (by rw[ek];exact k2) (by rw[es,E];rfl) L u1;have O:=F8m hV I q L K u1 W;exact⟨Z.er O,g2.er (F6a O (by rw[en,en]) (by rw[eg,eg];exact kb I))⟩
def G5w{p:Prog}{x y:Ty}(h:x.er=y.er)(m:A3):L9 p x m=L9 p y m:=by
 have I:x.name=y.name:=by rw[<-RJ x,h,RJ]
 have E:x.args.length=y.args.length:=by have:=F8 (λt=>t.args.length) h;rw[Gv,Gv]at this;simpa [Ig]using this
 grind[L9,Xc]
def fj{p:Prog}{x:Ty}{c:Be}{g:A4}:Pq p x c=some g↔g∈D7 p [] x/\g.name=c.name/\g.A1.length=c.targs.length/\Cr p [] x c.on=true:=by unfold Pq Fo;rcases My (λs:A4=>decide (s.name=c.name)) (C3 p [] x)with⟨I,E⟩|⟨j,y,I,E,L⟩;rw[I,A7 (by decide)];grind[Mj];rw[I,A5 (by omega),Ic,E];simp only;have O:=Mj.1 (Bs E);simp at L;constructor;grind;rintro⟨J,W,U,V⟩;have:y=g:=Yu (kF p [] x) O J (by grind);grind
def OU(p:Prog)(x:Ty)(c:Be)(E:List Ty)(cs:List Be):Prop:=∀g,Pq p x c=some g->(∀t,t∈Q0 g c->G4 t E)/\G4 (T1 g c) E/\∀d,L9 p x c.name=some d->∀y,y∈B3 (M4 d x c)->YP p (Sp p d x c) y E cs
theorem OU.er{p:Prog}(hg:Typed p){x L:Ty}{c U:Be}(O:x.er=L.er)(hc:E8 c U=0)(a5:Br p [] x=none)(a6:OG p c){ts:List Ty}{cs:List Be}(h:OU p x c ts cs):OU p L U ts cs:=by
 obtain⟨c1,c2,c3⟩:=XU hc;intro g' Z;obtain⟨a1,a2,a3,a4⟩:=fj.1 Z;obtain⟨g,m,e⟩:=SP O.symm a1;have hl:c.targs.length=U.targs.length:=by have:=F8 List.length c3;simpa using this
 obtain⟨e1,e2,e3,e4⟩:=Yr e;have a8:g.A1.length=g'.A1.length:=by have:=F8 List.length e2;simpa using this
 have hs:Pq p x c=some g:=fj.2 ⟨m,by grind,by omega,bV O.symm c1.symm a4⟩;obtain⟨n1,n2,n3⟩:=h g hs;have I:(Ia x c).map Ty.er=(Ia L U).map Ty.er:=by
  have W:x.args.map Ty.er=L.args.map Ty.er:=by
   have:=F8 Ty.args O
   rwa [Gv,Gv,Ig,Ig]at this
  unfold Ia;rw[Gy,Gy,W,c3]
 refine⟨λt ht=>?_,?_,λd hd y V=>?_⟩
 .obtain⟨q',a0,rfl⟩:=Ap.1 ht;obtain⟨i,hi⟩:=Lx a0;obtain⟨q,hq,eq⟩:=Wq e3.symm hi;have a7:q.type.er=q'.type.er:=by have:=F8 Param.type eq;simpa [Param.er]using this
  refine(n1 _ (Ap.2 ⟨q,Bs hq,rfl⟩)).er ?_;grind[Gu,xU]
 refine n2.er ?_;grind[T1,Gu,xU]
 .rw[<-G5w O,<-c2]at hd;obtain⟨b1,b2,_,_,b3,t,b4,_⟩:=KS hg a5 a6 hs hd;unfold M4 at V b4;rw[BR]at V;obtain⟨z,hz,rfl⟩:=Ap.1 V;have J:z.subst (Jv d) (Ia x c)∈B3 (d.body.subst (Jv d) (Ia x c)):=by rw[BR];exact Ap.2 ⟨z,hz,rfl⟩
  have E:=GS ((RL hg.right).1 d b1 b2) x c;obtain⟨o1,K,hK⟩:=AT E b4 _ J;refine(n3 d hd _ J).sub (V1:=Sp p d x c) ?_ I (λq hq=>PX o1 hK q hq);unfold VE Sp;rw[Dn,Dn];refine Hb λf _=>?_;simp only[Function.comp,Param.subst,Gg,Qx];rw[Gu,Gu,I]
def aS(t:Ty):t.er.er=t.er:=by
 induction t using Ty.induct with
 |h t E =>
 rw[Gv t,Gv];simp only[Ty.name,Ty.args,Dn]
 congr 1
 exact Hb λu I=>E u I
def OY(t:Ty):Ej t.er=Ej t:=SD (aS t)
def HO{e k y:Ex}(I:k∈e.kids)(E:y∈B3 k):y∈B3 e:=fU.2 (.inr ⟨k,I,E⟩)
def AU(e:Ex):e∈B3 e:=by rw[L0];simp
def VL{t:Ty}{n:A3}(h:t.er=.mk n [] 0):t=.mk n [] t.pos:=by obtain⟨m,a,q⟩:=t;rw[Gv]at h;simp only[Ty.name,Ty.args]at h;injection h with I E;rw[nN]at E;rw[I,E];rfl
def U3.call{p:Prog}{vars:List Param}{y v:Ex}{vs:List Ex}{s:Ao}{x:Ty}(Z:U3 p vars y s)(U:y.kind=2)(V:y.kids=v::vs)(J:Dc ⟨p,false,[],vars⟩ v=(x,none)):G4 x s.types/\dC ⟨x,y.name,y.targs⟩ s.calls:=by obtain⟨O,W⟩:=Z.2 v vs U V;rcases vo ⟨p,false,[],vars⟩ v with⟨I,_⟩|⟨_,⟨_,E⟩|⟨I,_,E⟩⟩;rw[O]at I;cases I;rw[J]at E;cases E;rw[J]at E;have L:x=(Da ⟨p,false,[],vars⟩ v).1:=F8 Prod.fst E;rw[L];exact W I
section
variable {p:Prog} {s:Ao} (h:Pa p s)
include h
theorem lk{vars:List Param}{y v:Ex}{vs:List Ex}{x:Ty}(hn:U3 p vars y s)(h2:y.kind=2)(hk:y.kids=v::vs)(hx:Dc ⟨p,false,[],vars⟩ v=(x,none)){g:A4}(hg:g∈D7 p [] x)(a1:g.name=y.name) :∃I c E w,I∈s.types/\x.er=I.er/\c∈Kr p s I/\c.name=y.name/\c.targs.map Ty.er=y.targs.map Ty.er/\E∈D7 p [] I/\E.er=g.er/\E.A1.length=c.targs.length/\w∈K8 p s I/\w.name=Gm y.name y.targs/\pE w=pE (D5 c E) /\ (∀q,q∈E.params->G4 (q.type.subst (Ad E.A1) c.targs) s.types)/\G4 (E.result.subst (Ad E.A1) c.targs) s.types:=by obtain⟨⟨I,J,V⟩,⟨c0,a0,ec⟩⟩:=hn.call h2 hk hx;obtain⟨e1,L,e3⟩:=XU ec;simp only at e1 L e3;have hi:Cr p [] I c0.on=true:=Yw (V.symm.trans e1);obtain⟨c,W,_,O,ct⟩:=ub h a0 hi;obtain⟨g',g1,g2,g3,_,_,g6,d0,U,a5,rfl,a2⟩:=V8 h J W;simp only at O ct g2 g3;obtain⟨w,E,w1,w2,w3,w4,w5,w6⟩:=rh h J W;have a4:E=g':=Yu (kF p [] I) w3 g1 (by rw[w4,g2]);subst a4;obtain⟨Z,m1,m2⟩:=SP V hg;have a3:E=Z:=Yu (kF p [] I) w3 m1 (by rw[(Yr m2).1,a1,w4];exact(O.trans L.symm));subst a3;obtain⟨n1,n2,_⟩:=h.Bi.call I J d0 U E a2;refine⟨I,_,E,w,J,V,W,O.trans L.symm,ct.trans e3.symm,w3,m2,g3,w1,?_,w6,λq hq=>n1 _ (Ap.2 ⟨q,hq,rfl⟩),n2⟩;rw[w5];show Gm d0.name d0.targs=_;rw[O.trans L.symm,Gm,Gm,YY (ct.trans e3.symm)]
theorem MT{vars:List Param}(hv:∀f,f∈vars->G4 f.type s.types):∀(e:Ex)(t:Ty),(∀y,y∈B3 e->U3 p vars y s)->Dc ⟨p,false,[],vars⟩ e=(t,none)->G4 t s.types:=by
 intro e;induction e using Ex.induct with|_ e ih=>?_;intro t hn ht;have hs:=hn e (AU e);rcases Jc.1 ht with⟨_,k,f,_,U,rfl⟩|⟨k3,_,_,_,rfl⟩|⟨v,vs,x,Z,hx,hh⟩;exact hv f (Bs U);exact hs.1 (.inl k3)
 .have E:v∈e.kids:=by rw[Z];simp
  rcases hh with⟨k2,g,hg,_,rfl⟩|⟨_,J,k,f,_,U,rfl⟩|⟨k5,_,_,rfl⟩
  .obtain⟨g1,g2,_⟩:=Wa.1 hg;obtain⟨W,c,gx,w,_,_,_,_,ct,_,m2,_,_,_,_,_,n2⟩:=lk h hs k2 Z hx g1 g2;refine n2.er ?_;obtain⟨_,f1,_,f3⟩:=Yr m2;have I:Ad gx.A1=Ad g.A1:=by rw[<-Tv gx.A1,f1,Tv]
   rw[Gu,Gu,I,ct,f3]
  obtain⟨W,O,V⟩:=ih v E x (λy hy=>hn y (HO E hy)) hx;have hi:B9 p x 1=true:=(Z2.1 J).1;obtain⟨f0,L,he⟩:=Wq (JE V) U;have:=h.Bi.fields W O (by rw[<-Xc V];exact hi) f0 (Bs L);exact this.er (by have:=F8 Param.type he;simpa [Param.er]using this);exact hs.1 (.inr k5)
theorem o0{K W O J:Ty}(V:G4 K s.types)(U:G4 W s.types)(hi:Cr p [] K W=true)(Z:O.er=Ej K)(eW:J.er=Ej W):Cr (Bm p s) [] O J=true:=by obtain⟨k0,I,ek⟩:=V;obtain⟨w0,E,L⟩:=U;have h1:Cr p [] k0 w0=true:=bV ek L hi;rw[VL Z,VL eW,Vp ek,Vp L,nz h I E];exact h1
theorem PZ{vars vars':List Param}{I E:List Ty}{es:List Ex}(O:Si ⟨p,false,[],vars⟩ I es)(hT:∀k,k∈es->∀K,Dc ⟨p,false,[],vars⟩ k=(K,none)->G4 K s.types/\∃L,Dc ⟨Bm p s,false,[],vars'⟩ (Bt k)=(L,none)/\L.er=Ej K)
  (hW:∀w,w∈I->G4 w s.types)(V:E.map Ty.er=I.map Ej):Si ⟨Bm p s,false,[],vars'⟩ E (es.map Bt):=by
 have U:E.length=I.length:=by have:=F8 List.length V;simpa using this
 refine⟨by rw[U,B7];exact O.1,λi w' k' h1 W=>?_⟩;rw[Df,Jn]at W;obtain⟨k,Z,rfl⟩:=W;have hi:i<I.length:=by rw[<-U];exact(Az.1 h1).1
 have J:I[i]?=some I[i]:=Bu hi;obtain⟨K,g1,g2⟩:=O.2 i _ k J Z;obtain⟨t1,L,t2,t3⟩:=hT k (Bs Z) K g1;refine⟨L,t2,o0 h t1 (hW _ (Bs J)) g2 t3 ?_⟩;have:=F8 (λl=>l[i]?) V;simp only[Df,h1,J,Em,B8]at this;exact this
theorem iX{vars vars':List Param}(hv:∀f,f∈vars->G4 f.type s.types)(ak:vars'.map (·.name)=vars.map (·.name))(ag:vars'.map (λf=>f.type.er)=vars.map (λf=>Ej f.type)) :∀(e:Ex) (t:Ty),(∀y,y∈B3 e->U3 p vars y s)->Dc ⟨p,false,[],vars⟩ e=(t,none)->∃t',Dc ⟨Bm p s,false,[],vars'⟩ (Bt e)=(t',none)/\t'.er=Ej t:=by
 intro e;induction e using Ex.induct with|_ e ih=>?_;intro t hn ht;have hs:=hn e (AU e);have hT:∀k,k∈e.kids->∀K,Dc ⟨p,false,[],vars⟩ k=(K,none)->G4 K s.types/\∃K',Dc ⟨Bm p s,false,[],vars'⟩ (Bt k)=(K',none)/\K'.er=Ej K:=λk hk K hK =>⟨MT h hv k K (λy hy=>hn y (HO hk hy)) hK,ih k hk K (λy hy=>hn y (HO hk hy)) hK⟩;have I:(Bt e).kind=e.kind:=by rw[Qp];rfl
 have V:(Bt e).type=.mk e.type.mg [] e.type.pos:=by rw[Qp];rfl
 have E:(Bt e).targs=[]:=by rw[Qp];rfl
 have L:(Bt e).kids=e.kids.map Bt:=by rw[Qp];rfl
 have U:(Bt e).name=if e.kind=2 then Gm e.name e.targs else e.name:=by rw[Qp];rfl
 have Fe:∀{x:Ty},x∈s.types->e.type.er=x.er->(Bt e).type=.mk x.mg [] e.type.pos:=λ_ he=>by rw[V,Vp he]
 rcases Jc.1 ht with⟨k1,k,f,h1,hf,rfl⟩|⟨k3,_,a7,hK,rfl⟩|⟨v,vs,x,hk,hx,hh⟩;have h1:Gp vars e.name=k:=h1;have hf:vars[k]?=some f:=hf;have:=F8 (λl=>l[k]?) ag;simp only[Df,hf,Em]at this;rw[Jn]at this;obtain⟨f',ah,he⟩:=this;refine⟨f'.type,Jc.2 (.inl ⟨I.trans k1,k,f',?_,ah,rfl⟩),he⟩;show Gp vars' (Bt e).name=k;rw[U,A5 (by omega),bR ak,h1]
 .obtain⟨x,hx,Z⟩:=hs.1 (.inl k3);have hi:B9 p e.type 1=true:=(Z2.1 a7).1;have a0:B9 p x 1=true:=by rw[<-Xc Z];exact hi
  refine⟨(Bt e).type,Jc.2 (.inr (.inl ⟨I.trans k3,?_,Z2.2 ⟨?_,dD _⟩,?_,rfl⟩)),by rw[V];rfl⟩;show Br (Bm p s) [] (Bt e).type=none;rw[Fe hx Z];exact kT h hx _;show B9 (Bm p s) (Bt e).type 1=true;rw[Fe hx Z,ZC h hx _ (.inl rfl)];exact a0
  .show Si _ ((Bc (Bm p s) (Bt e).type).map (·.type)) (Bt e).kids;rw[Fe hx Z,ql h hx a0,L];refine PZ h hK hT (λw hw=>?_) ?_;obtain⟨f,hf,rfl⟩:=Ap.1 hw;obtain⟨i,hi⟩:=Lx hf;obtain⟨f0,a1,he⟩:=Wq (JE Z) hi;exact(h.Bi.fields x hx a0 f0 (Bs a1)).er (by have:=F8 Param.type he;simpa [Param.er]using this)
   .have he:=JE (p:=p) Z;show((G8 (Bc p x)).map (·.type)).map Ty.er=((Bc p e.type).map (·.type)).map Ej;unfold G8;rw[Dn,Dn,Dn];have e1:(Bc p x).map ((Ty.er ∘ λf:Param=>f.type) ∘ λf=>⟨f.name,Ej f.type,0⟩)=((Bc p x).map Param.er).map λf=>Ej f.type:=by rw[Dn];exact Hb λf _=>by simp only[Function.comp,Param.er];rw[Gv,OY];simp only[Ty.name,Ty.args,G5]
    have e2:(Bc p e.type).map (Ej ∘ λf:Param=>f.type)=((Bc p e.type).map Param.er).map λf=>Ej f.type:=by rw[Dn];exact Hb λf _=>by simp only[Function.comp,Param.er];rw[OY]
    rw[e1,e2,he]
 .have ac:v∈e.kids:=by rw[hk];simp
  obtain⟨ae,x',a3,ab⟩:=hT v ac x hx;have O:(Bt e).kids=Bt v::vs.map Bt:=by rw[L,hk];rfl
  rcases hh with⟨k2,g,hg,ad,rfl⟩|⟨k4,a7,k,f,h1,hf,rfl⟩|⟨k5,_,_,rfl⟩
  .obtain⟨g1,g2,g3,_,_,g6⟩:=Wa.1 hg;obtain⟨x0,c,gx,w,J,Z,hc,cn,ct,w3,m2,am,w1,wn,w6,n1,n2⟩:=lk h hs k2 hk hx g1 g2;have W:x'=.mk x0.mg [] x'.pos:=by have:=VL (n:=x.mg) ab;rw[Vp Z]at this;exact this
   have a9:=NM h J w1;have af:N3 w∈D7 (Bm p s) [] x':=by rw[W];exact(cJ h J _).2 ⟨w,w1,rfl⟩
   have a5:=(zS a9).2;rw[w6]at a5;obtain⟨_,f1,f2,f3⟩:=Yr m2;have a6:Ad gx.A1=Ad g.A1:=by rw[<-Tv gx.A1,f1,Tv]
   have a2:(N3 w).A1=[]:=by rw[wo a9]
   have a':(N3 w).params.map (λf=>f.type.er)=g.params.map λf=>Ej (f.type.subst (Ad g.A1) e.targs):=by
    have e1:(N3 w).params.map (λf=>f.type.er)=((N3 w).er.params).map (·.type):=by simp only[A4.er,Dn];rfl
    have e2:g.params.map (λf=>Ej (f.type.subst (Ad g.A1) e.targs))=(g.params.map Param.er).map λf=>Ej (f.type.subst (Ad g.A1) e.targs):=by rw[Dn];exact Hb λf _=>by simp only[Function.comp,Param.er];exact SD (by rw[Gu,Gu,aS])
    have e3:gx.params.map (λf=>Ej (f.type.subst (Ad gx.A1) c.targs))=(gx.params.map Param.er).map λf=>Ej (f.type.subst (Ad gx.A1) c.targs):=by rw[Dn];exact Hb λf _=>by simp only[Function.comp,Param.er];exact SD (by rw[Gu,Gu,aS])
    rw[e1,a5,e2,<-f2];have e4:((pE (D5 c gx)).params).map (·.type)=gx.params.map λf=>Ej (f.type.subst (Ad gx.A1) c.targs):=by
     unfold pE D5 Ge;simp only[Dn];apply Kx;intro i;simp only[Df,Px,Option.map_map];cases gx.params[i]? with
     |none=>rfl|some f=>simp only[Em,Function.comp,Param.subst];rw[Gv];rfl
    rw[e4,e3];refine Hb λf _=>SD ?_;rw[Gu,Gu,a6,ct]
   have a4:(N3 w).params.length=g.params.length:=by have:=F8 List.length a';simpa using this
   have aa:Nh ⟨Bm p s,false,[],vars'⟩ (Bt e) x'=.inr (N3 w):=by refine Wa.2 ⟨af,?_,?_,?_,?_,?_⟩;show w.name=_;rw[wn,U,A7 k2];rw[a2,E];rfl;rw[E];simp;rw[a2];exact W4.2 (by simp);rw[L,B7,g6,a4]
   refine⟨_,Jc.2 (.inr (.inr ⟨Bt v,vs.map Bt,x',O,a3,.inl ⟨I.trans k2,N3 w,aa,?_,rfl⟩⟩)),?_⟩
   .refine PZ h ad (λk ai=>hT k (by rw[hk];simp[ai])) (λu hu=>?_) ?_
    .unfold Tu at hu;obtain⟨f,hf,rfl⟩:=Ap.1 hu;obtain⟨i,hi⟩:=Lx hf;obtain⟨f0,a1,he⟩:=Wq f2.symm hi;refine(n1 f0 (Bs a1)).er ?_;have:f0.type.er=f.type.er:=by have:=F8 Param.type he;simpa [Param.er]using this
     rw[Gu,Gu,a6,ct,this]
    unfold Tu;rw[a2,E];simp only[show Ad ([]:List Aj)=[] from rfl,Rn];rw[Dn,Dn];exact a'
   .show((N3 w).result.subst (Ad (N3 w).A1) (Bt e).targs).er=_;rw[a2,E];simp only[show Ad ([]:List Aj)=[] from rfl,Rn];have:(N3 w).result.er=(pE (D5 c gx)).result:=by rw[<-a5];rfl
    rw[this];show(Ej (gx.result.subst (Ad gx.A1) c.targs)).er=_;rw[Gv];simp only[Ty.name,Ty.args,G5];exact SD (by rw[Gu,Gu,a6,ct,f3])
  .obtain⟨x0,J,Z⟩:=ae;have hi:B9 p x 1=true:=(Z2.1 a7).1;have a0:B9 p x0 1=true:=by rw[<-Xc Z];exact hi
   have W:x'=.mk x0.mg [] x'.pos:=by have:=VL (n:=x.mg) ab;rw[Vp Z]at this;exact this
   have h1:Gp (Bc p x) e.name=k:=h1;have hf:(Bc p x)[k]?=some f:=hf;obtain⟨f0,a1,he⟩:=Wq (JE Z) hf;have a8:=ql h J a0 x'.pos;rw[<-W]at a8;have aj:(G8 (Bc p x0)).map (·.name)=(Bc p x).map (·.name):=by
    have e1:∀l:List Param,l.map (·.name)=(l.map Param.er).map (·.name):=λl=>by rw[Dn];rfl
    unfold G8;rw[Dn,show((λf:Param=>f.name) ∘ λf=>⟨f.name,Ej f.type,0⟩)=λf:Param=>f.name from rfl,e1,e1 (Bc p x),JE Z]
   refine⟨Ej f0.type,Jc.2 (.inr (.inr ⟨Bt v,vs.map Bt,x',O,a3,.inr (.inl ⟨I.trans k4,Z2.2 ⟨?_,dD _⟩,k,⟨f0.name,Ej f0.type,0⟩,?_,?_,rfl⟩)⟩)),?_⟩;show B9 (Bm p s) x' 1=true;rw[W,ZC h J _ (.inl rfl)];exact a0;show Gp (Bc (Bm p s) x') (Bt e).name=k;rw[a8,U,A5 (by omega),bR aj,h1];show(Bc (Bm p s) x')[k]?=_;rw[a8];unfold G8;rw[Df,a1];rfl
   .have:f0.type.er=f.type.er:=by have:=F8 Param.type he;simpa [Param.er]using this
    rw[Gv];simp only[Ty.name,Ty.args,G5];exact SD this
  obtain⟨x0,J,U2⟩:=hs.1 (.inr k5);refine⟨(Bt e).type,Jc.2 (.inr (.inr ⟨Bt v,vs.map Bt,x',O,a3,.inr (.inr ⟨I.trans k5,?_,by simp,rfl⟩)⟩)),by rw[V];rfl⟩;show Br (Bm p s) [] (Bt e).type=none;rw[Fe J U2];exact kT h J _
end
def Uy(p:Prog)(y x:Ty):Prop:=B9 p x 1=true/\B9 p y 1=true/\∃f,f∈Bc p x/\f.type.er=y.er
section
variable {p:Prog}
def H5z{x L y:Ty}(J:x.er=L.er)(h:Uy p y L):Uy p y x:=by
 obtain⟨Z,U,f,O,e⟩:=h;obtain⟨i,W⟩:=Lx O;obtain⟨I,E,V⟩:=Wq (JE (p:=p) J.symm) W;refine⟨by rw[Xc J];exact Z,U,I,Bs E,?_⟩;have:I.type.er=f.type.er:=by have:=F8 Param.type V;simpa [Param.er]using this
 exact this.trans e
def zd{x E:Ty}(J:x.er=E.er)(h:Acc (Uy p) x):Acc (Uy p) E:=⟨_,λ_ I=>h.inv (H5z J I)⟩
def zo{x:Ty}(h:¬B9 p x 1=true):Acc (Uy p) x:=⟨_,λ_ E=>absurd E.1 h⟩
def vk(t:Ty):t.strs p=if kindOf p t.name=1 then t.name::zA p t.args else[]:=by cases t;rfl
def l5{x:A3}:∀{l:List Ty} {t:Ty},t∈l->x∈t.strs p->x∈zA p l
 |u::l,t,ht,E=>by rw[zA,Bj];rcases Ay.1 ht with rfl|ht;exact .inl E;exact .inr (l5 ht E)
def G6w{v:List A3}{a:List Ty}{r:A3->Prop}(O:∀u,u∈a->Acc (Uy p) u)(hr:∀x:Ty,r x.name->B9 p x 1=true->(∀u,u∈x.args->Acc (Uy p) u)->Acc (Uy p) x):∀t:Ty,(∀n,n∈t.strs p->r n)->Acc (Uy p) (t.subst v a):=by
 intro t
 induction t using Ty.induct with
 |h t L =>
 intro hs;rw[W1];split
 .rename_i J;have Z:=O _ (aQ J.2.1 J.2.2);exact zd EO.symm Z
 .by_cases E:B9 p (.mk t.name (t.args.map (Ty.subst v a)) t.pos) 1=true
  .have U:kindOf p t.name=1:=(Pf E).1;rw[vk,A7 U]at hs;refine hr _ (hs t.name (by simp)) E λu V=>?_;obtain⟨w,I,rfl⟩:=Ap.1 V;exact L w I λn W=>hs n (by simp[l5 I W])
  .exact zo E
def RQ(p:Prog):Prop:=∀nm,kindOf p nm=1->¬Way p nm nm
def F6y(hp:p.decls.length<=100000)(L:HW p):RQ p:=λnm O I=>by obtain⟨d,hd,U,_⟩:=ZG (p:=p) (n:=nm) (by rw[O];decide);obtain⟨_,W,Z⟩:=eF hd;obtain⟨i,V⟩:=Lx Z;have E:=L i d V;unfold Pm at E;rw[A7 (.inl (by omega))]at E;unfold Z5 at E;split at E;cases E;split at E;cases E;rw[A7 (by omega)]at E;split at E;cases E;split at E;cases E;rename_i J;exact J (by rw[W];exact((GM p hp nm).2 nm).2 I)
def G3s(hp:p.decls.length<=100000)(hn:RQ p){a b:A3}(h:b∈Gk p a):(N9 p b).length<(N9 p a).length:=by
 obtain⟨a1,V⟩:=GM p hp a;obtain⟨O,U⟩:=GM p hp b;have hb:b∈N9 p a:=(V b).2 (.one h);have L:b∉N9 p b:=λW=>hn b (Way.T4 (.one h)) ((U b).1 W);have I:(N9 p b).Nodup:=by unfold Iv at O;exact O.imp λ{x y} J Z=>by subst Z;have h1:=XK.2 J;have h2:=To.2 (rfl:x=x);omega
 have E:∀x,x∈b::N9 p b->x∈N9 p a:=λx hx=>by rcases Ay.1 hx with rfl|hx;exact hb;exact(V x).2 (Way.trans (.one h) ((U x).1 hx))
 have:=HK (l:=b::N9 p b) (m:=N9 p a) (Vm.2 ⟨L,I⟩) E;simp only[Bg]at this;omega
def NZ(hp:p.decls.length<=100000)(U:RQ p):∀(n:Nat)(x:Ty),(N9 p x.name).length<n->B9 p x 1=true->(∀u,u∈x.args->Acc (Uy p) u)->Acc (Uy p) x
 |0,_,h,_,_=>by omega
 |n+1,x,h,O,Z=>by
  refine⟨_,λy hy=>?_⟩;obtain⟨_,_,f,E,he⟩:=hy;refine zd he ?_;unfold Bc at E;rw[A7 O]at E;obtain⟨d,hd,hk,_⟩:=La (by decide) O;rw[hd,Dx]at E;unfold fieldsD at E;obtain⟨g,V,rfl⟩:=Ap.1 E;refine G6w (r:=λm=>(N9 p m).length<n) Z (λz W L J=>NZ hp U n z W L J) g.type λm hm=>?_;have I:m∈Gk p x.name:=by rw[cO];unfold fieldsOf W3;unfold Ec at hd;rw[hd];simp only[hk,Av];exact P4.2 ⟨g,V,hm⟩
  have:=G3s hp U I;omega
def G3k(hp:p.decls.length<=100000)(I:RQ p)(x:Ty):Acc (Uy p) x:=by
 induction x using Ty.induct with
 |h x J =>
 by_cases E:B9 p x 1=true
 .exact NZ hp I _ x (Nat.lt_succ_self _) E J
 .exact zo E
def yi{a c:A3}(h:Way p a c):∃b,b∈Gk p a/\(b=c\/Way p b c):=by
 induction h with
 |one h=>exact⟨_,h,.inl rfl⟩|more h k E =>obtain⟨b,I,hh⟩:=E;refine⟨b,I,.inr ?_⟩;rcases hh with rfl|hh;exact .one k;exact .more hh k
end
section
variable {p:Prog} {s:Ao} (h:Pa p s)
include h
theorem F6z{x:Ty}(hx:x∈s.types){b:A3}(I:b∈Gk (Bm p s) x.mg):∃y,y∈s.types/\b=y.mg/\Uy p y x:=by
 rw[cO]at I;unfold W3 at I;obtain⟨f,E,I⟩:=P4.1 I;unfold fieldsOf at E;have hd:=cN h hx;unfold Ec at hd;rw[hd]at E;simp only at E;unfold I8 at E;by_cases J:B9 p x 1=true
 .rw[A7 J]at E;have E:f∈G8 (Bc p x):=by simpa [headD]using E
  unfold G8 at E;obtain⟨g,V,rfl⟩:=Ap.1 E;obtain⟨y,Z,O⟩:=h.Bi.fields x hx J g V;rw[vk]at I;simp only[Ty.name,Ty.args,zA]at I;split at I
  .rename_i W;rw[Vp O,ZO h Z]at W;have L:B9 p y 1=true:=by by_cases U:B9 p y 1=true;exact U;rw[A5 U]at W;omega
   exact⟨y,Z,by rw[Pj.1 I,Vp O],J,L,g,V,O⟩
  simp at I
 rw[A5 J]at E;simp[headD]at E
theorem G8z{x:Ty}(Z:x∈s.types):¬Way (Bm p s) x.mg x.mg:=by
 have E:=oA p h.T8;have I:=G3k E.len (F6y E.len h.Fe.head) x
 induction I with
 |intro x _ U =>
 intro L;obtain⟨b,J,hh⟩:=yi L;obtain⟨y,W,rfl,O⟩:=F6z h Z J;refine U y O W ?_;rcases hh with V|hh
 .rw[V]at J |-;exact L
 .exact .trans hh (.one J)
omit h in
theorem pt:¬Way (Bm p s) Lb Lb:=λI=>by obtain⟨b,E,_⟩:=yi I;rw[cO]at E;unfold W3 fieldsOf at E;have hd:=IJ (p:=p) (s:=s);unfold Ec at hd;rw[hd]at E;simp[Ke,headD]at E
end
def xb{s:A3}{c:UInt8}(h:c∈s)(I:c.toNat<97):nE s=false:=by
 unfold nE;refine Cb λE=>?_;have:∀b,b∈s->97<=b.toNat:=by rcases E with rfl|rfl|rfl|rfl|rfl|rfl|rfl <;> decide
 have:=this c h;omega
def jk{n:A3}(h:n.all Jf=true):(Fx n).all Jf=true:=by simp only[Fx,Dz,P4]at*;rintro c ⟨b,I,E⟩;split at E;simp only[Ay,Eh,Eo,or_self]at E;rw[E];decide;rw[Pj.1 E];exact h _ I
def Gl:∀{n:A3},(95:UInt8) ∉Fx n->Fx n=n
 |[],_=>rfl
 |c::n,h=>by
  unfold Fx at h |-;rw[Ww]at h |-;by_cases E:c=95
  rw[A7 E]at h;simp at h;rw[A5 E]at h |-;have:Fx n=n:=Gl λI=>h (Bj.2 (.inr I));unfold Fx at this;rw[this];rfl
def EN{c:UInt8}{r:A3}(h:isName (c::r)=true):cls c.toNat=1/\(c::r).all Jf=true/\nE (c::r)=false:=by unfold isName at h;simp only[Bh,Di,Lu]at h;exact⟨h.1.1,h.1.2,h.2⟩
def lX{c:UInt8}{r:A3}(J:cls c.toNat=1)(I:(c::r).all Jf=true)(E:nE (c::r)=false):isName (c::r)=true:=by unfold isName;simp only[Bh,Di,Lu];exact⟨⟨J,I⟩,E⟩
def H7j{n:A3}(h:isName n=true):n.all Jf=true:=by
 cases n with
 |nil=>rfl|cons c r=>exact(EN h).2.1
def jS{n z:A3}(J:isName n=true)(U:z.all Jf=true)(hu:z=[]\/(95:UInt8)∈z):isName (Fx n++z)=true:=by
 cases n with
 |nil=>simp[isName]at J
 |cons c r =>
  obtain⟨L,W,Z⟩:=EN J;have V:c≠95:=by rintro rfl;revert L;decide
  have e:Fx (c::r)=c::Fx r:=by simp[Fx,V]
  by_cases E:(95:UInt8)∈Fx (c::r)++z;have O:=xb E (by decide);have I:=jk W;rw[e,Kn]at*;refine lX L ?_ O;rw[Qa,Bh]at I |-;rw[Z1,I.2,U];exact⟨I.1,rfl⟩
  .rcases hu with rfl|hu;rw[Fv]at E |-;rw[Gl E];exact J
   exact absurd (Bj.2 (.inr hu)) E
def G9i{c:UInt8}(h:48<=c.toNat/\c.toNat<=57):Jf c=true:=by
 have:cls c.toNat=2:=by unfold cls;rw[A5 (show ¬letter (c.toNat:Int) by unfold letter;omega),A7 (show 48<=(c.toNat:Int)/\(c.toNat:Int)<=57 by omega)]
 unfold Jf;rw[this];decide
def JX(i:Nat):(Lib.itoa (i:Int)).all Jf=true:=by rw[Uv,Dz];exact λc E=>G9i (uX i c E)
def F4p(i:Nat):isName ([112]++Lib.itoa (i:Int))=true:=by refine lX (by decide) ?_ ?_;rw[Qa,Bh];exact⟨by decide,JX i⟩;obtain⟨c,r,e,E,I⟩:=bW i;refine xb (c:=c) ?_ (by omega);simp[Uv,e]
def G2b{E:A3}(hs:E.all Jf=true){l:List A3}(h:∀x,x∈l->x.all Jf=true):(Lib.join l E).all Jf=true:=by
 cases l with
 |nil=>rfl
 |cons x r =>
  rw[Lib.join_cons,Z1,h x (by simp),Ch];unfold Lib.joinTail;rw[Dz]at hs |-;intro c hc;obtain⟨z,J,hc⟩:=List.mem_flatten.1 hc;obtain⟨y,I,rfl⟩:=Ap.1 J;rcases Bj.1 hc with hc|hc
  exact hs c hc;exact Dz.1 (h y (by simp[I])) c hc
def bU{l:List Ty}(h:∀t,t∈l->t.mg.all Jf=true):(Ki l).all Jf=true:=by unfold Ki;split;rfl;rw[Z1,Z1,G2b (by decide) λx E=>by obtain⟨t,ht,rfl⟩:=Ap.1 E;exact h t ht];decide
def cX(l:List Ty):Ki l=[]\/(95:UInt8)∈Ki l:=by unfold Ki;split;exact .inl rfl;exact .inr (by simp)
def YL:∀{t:Ty},t.Mg->t.mg.all Jf=true:=by
 intro t h
 induction h with
 |loc i p W =>rw[FA,A7 ⟨rfl,rfl⟩,Z1];have:(En i).drop 1=Lib.itoa (i:Int):=rfl;simp only[Ty.name];rw[this,JX];decide
 |R0 n a p E U V O I =>
  rw[FA];split
  .rename_i J;cases n with
   |nil=>simp[isName]at E
   |cons c r =>
    have L:=(EN E).1;have:c=36:=by simpa [Ty.name]using J.1
    subst this;exact absurd L (by decide)
  simp only[Ty.name,Ty.args];rw[Z1,jk (H7j E),bU I];rfl
def AQ{t:Ty}(h:t.Mg)(E:isName t.name=true):isName t.mg=true:=by
 rw[FA];split
 .rename_i I;cases e:t.name with
  |nil=>rw[e]at E;simp[isName]at E
  |cons c r =>
   rw[e]at E I;have L:=(EN E).1;have:c=36:=by simpa using I.1
   subst this;exact absurd L (by decide)
 exact jS E (bU λu J=>YL (h.arg u J)) (cX _)
def uh{n:A3}{l:List Ty}(E:isName n=true)(h:∀t,t∈l->t.Mg):isName (Gm n l)=true :=jS E (bU λu I=>YL (h u I)) (cX _)
def na{α:Type}{l:List α}{f:α->A3}(h:∀x,x∈l->(f x).all Jf=true):(l.flatMap f).all Jf=true:=by rw[Dz];intro c E;obtain⟨x,I,E⟩:=P4.1 E;exact Dz.1 (h x I) c E
def zu{g:A4}(I:isName g.name=true)(E:∀f,f∈g.canon.A1->f.bound.Mg)(hp:∀f,f∈g.canon.params->f.type.Mg)(hr:g.canon.result.Mg):isName (L7 g)=true:=by unfold L7 Jx Kd;simp only[H3];refine jS I ?_ (.inr (by simp));simp only[Z1];rw[na λf h=>by rw[Z1,YL (E f h)];decide,na λf h=>by rw[Z1,YL (hp f h)];decide,YL hr];decide
def F2{p:Prog}(hr:p.right=true){x:Ty}:∀g,g∈D7 p [] x->isName g.name=true:=by
 intro s E;have V:D3 [] x=none:=by simp[D3,Fk,E3]
 simp only[Prog.right,Bh,Dz]at hr;have hr:=hr.1;unfold D7 at E;rw[V]at E;simp only[jC,Uj,Iu,Gi]at E;split at E;rename_i U;unfold Hj at E;rw[A7 U]at E;obtain⟨d,hd,_⟩:=La (by decide) U;rw[hd,Dx]at E;unfold Xh Im at E;obtain⟨⟨y,i⟩,L,rfl⟩:=Ap.1 E;have O:=Kv (Xr (Kp.1 L).1);have h:=hr d (P3 hd);simp only[Decl.right,A4.right,Bh,Dz]at h;exact(h.2.2.2.1 y O).1.1.1
 .unfold Hf at E;obtain⟨⟨d,i⟩,L,rfl⟩:=Ap.1 E;have O:d∈p.decls:=Kv (Xr (Kp.1 L).1);have I:=(Kp.1 L).2;unfold Jm at I;simp only[Bh,Di]at I;have h:=hr d O;have J:d.Ub=true:=by simp only[Decl.right,Bh]at h;exact h.2.2.2.2.2
  unfold Decl.Ub at J;rw[A7 (by first|exact I.1.1.1|exact I.1.1|exact I.1)]at J;simp only[A4.right,Bh]at J;exact J.2.2.1.1.1.1
def KT{n:A3}(h:isName n=true)(q:Int):(Ty.mk n [] q).right=true:=by unfold Ty.right;rw[OA];simp[Ty.name,Ty.args,Ty.Eg,h]
def NY{e f:Ex}(E:e.kind=f.kind)(I:e.kids.length=f.kids.length):e.N7=f.N7:=by unfold Ex.N7;rw[E,I]
def ri:∀{l:List Ex},(∀x,x∈l->x.right=true)->JA l=true
 |[],_=>rfl|x::l,h=>by rw[JA,h x (by simp),ri λy E=>h y (by simp[E])];rfl
def ea:∀{l:List Ex} {k:Ex},k∈l->∀z,z∈B3 k->z∈Cx l
 |w::l,k,hk,z,E=>by rw[Cx,Bj];rcases Ay.1 hk with rfl|hk;exact .inl E;exact .inr (ea hk z E)
def xl(e:Ex):e.Sw=true↔((e.kind=3\/e.kind=5)/\e.type.right=true/\e.name=[]/\e.N7=true)\/(¬(e.kind=3\/e.kind=5)/\e.type.right=false/\e.type.name=[]/\e.type.args=[]/\isName e.name=true/\e.N7=true):=by
 unfold Ex.Sw;have ht:e.typed=true↔(e.kind=3\/e.kind=5):=by unfold Ex.typed;rw[U7,Di,Di]
 by_cases E:e.typed=true;rw[A7 E];have:=ht.1 E;simp[this,and_assoc];rw[A5 E];have:¬(e.kind=3\/e.kind=5):=λh=>E (ht.2 h);simp[this,and_assoc]
def F6o{f:Ex}(J:f.kind=3\/f.kind=5->isName f.type.mg=true/\f.name=[])(U:¬(f.kind=3\/f.kind=5)->f.type.mg=[]/\isName f.name=true/\∀t,t∈f.targs->t.Mg)(V:f.N7=true):(Bt f).Sw=true:=by
 rw[Qp,xl];have I:(Ex.mk f.kind (if f.kind=2 then Gm f.name f.targs else f.name) (.mk f.type.mg [] f.type.pos) [] (f.kids.map Bt) f.pos).N7=true:=by refine Eq.trans (NY (f:=f) ?_ ?_) V;rfl;exact B7 ..
 by_cases E:f.kind=3\/f.kind=5;exact .inl ⟨E,KT (J E).1 _,(show(if f.kind=2 then Gm f.name f.targs else f.name)=[] by rw[A5 (by omega)];exact(J E).2),I⟩;obtain⟨O,L,W⟩:=U E;refine .inr ⟨E,(show(Ty.mk f.type.mg [] f.type.pos).right=false by rw[O];rfl),O,rfl,(show isName (if f.kind=2 then Gm f.name f.targs else f.name)=true from ?_),I⟩;split;exact uh L W;exact L
def G1f{v:List A3}(hv:([]:A3) ∉v){a:List Ty}{B:Nat}:∀{e:Ex},e.right=true->(e.subst v a).Nq B->(∀y,y∈B3 (e.subst v a)->y.kind=3\/y.kind=5->isName y.type.name=true)->(Bt (e.subst v a)).right=true:=by
 intro e;induction e using Ex.induct with|_ e ih=>?_;intro hr Z hn;rw[LA,Bh,Bh]at hr;obtain⟨h1,h2,h3⟩:=hr;have hk:=kK h1;have I:=hn _ (by rw[L0];exact GG);have W:=Z.type;have V:=Z.targs.1;have E:(e.subst v a).kids=e.kids.map (Ex.subst v a):=by rw[MD];rfl
 have a0:∀x,x∈(e.subst v a).kids->(Bt x).right=true:=λx L=>by have O:=L;rw[E]at L;obtain⟨y,U,rfl⟩:=Ap.1 L;refine ih y U (hk y U) (Z.kids _ O) λz hz=>hn z ?_;rw[L0];exact Ay.2 (.inr (ea O z hz))
 have e1:(e.subst v a).kind=e.kind:=by rw[MD];rfl
 have e2:(e.subst v a).name=e.name:=by rw[MD];rfl
 have e3:(e.subst v a).type=e.type.subst v a:=by rw[MD];rfl
 have h4:=(xl e).1 h3;rw[LA,Bh,Bh];refine⟨ri λx L=>?_,by rw[Qp];rfl,F6o (λJ=>⟨AQ (W J).mg (I J),?_⟩) (λJ=>?_) ?_⟩;rw[Qp]at L;obtain⟨y,U,rfl⟩:=Ap.1 L;exact a0 y U;rw[e1]at J;rw[e2];rcases h4 with h4|h4;exact h4.2.2.1;exact absurd J h4.1;rw[e1]at J;rcases h4 with h4|h4;exact absurd h4.1 J;rw[e2,e3,O7 hv h4.2.2.1 h4.2.2.2.1,ZV];exact⟨rfl,h4.2.2.2.2.1,λt ht=>(V t ht).mg⟩;refine(NY e1 (by rw[E,B7])).trans ?_;rcases h4 with h4|h4;exact h4.2.2.2;exact h4.2.2.2.2.2
def aM:∀e:Ex,B3 (Bt e)=(B3 e).map Bt:=by
 intro e;induction e using Ex.induct with|_ e J=>?_
 have key:∀l:List Ex,(∀x,x∈l->B3 (Bt x)=(B3 x).map Bt)->Cx (l.map Bt)=(Cx l).map Bt:=by
  intro l
  induction l with
  |nil=>intro _;rfl|cons x l E=>intro h;rw[Cj,Cx,Cx,h x (by simp),E λy I=>h y (by simp[I]),Gy]
 rw[L0,L0 e,Cj,<-key _ J,show(Bt e).kids=e.kids.map Bt by rw[Qp];rfl]
def ke(e:Ex):Ku (Bt e)=true:=by unfold Ku;rw[aM,Dz];intro x E;obtain⟨y,_,rfl⟩:=Ap.1 E;rw[Qp];rfl
def KL{ps qs:List Param}{f:Param}(L:f∈F7 ps qs):∃a b,a∈ps/\b∈qs/\f=⟨b.name,a.type,a.pos⟩:=by
 obtain⟨i,E⟩:=Lx L;simp only[F7,GW]at E;cases I:ps[i]? with
 |none=>rw[I]at E;simp at E
 |some a =>
  cases J:qs[i]? with
  |none=>rw[I,J]at E;simp at E|some b =>rw[I,J]at E;simp only[B8]at E;exact⟨a,b,Bs I,Bs J,E.symm⟩
def IU{p:Prog}(hr:p.right=true){d:Decl}(hd:d∈p.decls)(I:d.kind=3):isName d.recv=true/\∀f,f∈d.sig.params->isName f.name=true:=by simp only[Prog.right,Bh,Dz]at hr;have hr:=hr.1 d hd;unfold Decl.right Decl.Ub at hr;rw[A7 I]at hr;simp only[A4.right,Nf,Bh,Dz]at hr;exact⟨hr.2.2.2.2.2.1,λf E=>(hr.2.2.2.2.2.2.2.1.1.2 f E).1⟩
def QT(s:Ao)(t:Ty):Prop:=t.args=[]/\(t.name=Lb\/∃u,u∈s.types/\t.name=u.mg)
def QT.of{s:Ao}{t:Ty}(h:G4 t s.types)(q:Int):QT s (.mk t.mg [] q):=by obtain⟨u,E,e⟩:=h;exact⟨rfl,.inr ⟨u,E,Vp e⟩⟩
def QT.top{s:Ao}:QT s Qc:=⟨rfl,.inl rfl⟩
section
variable {p:Prog} {s:Ao} (h:Pa p s)
include h
theorem eQ{x:Ty}(J:x∈s.types):isName x.name=true:=by obtain⟨d,hd,_⟩:=ZG (jW (h.wf J)).1;obtain⟨_,E,I⟩:=eF hd;rw[<-E];exact(CU h.Fe.right I).1
theorem F7z{t:Ty}(ht:G4 t s.types):isName t.name=true:=by
 obtain⟨u,E,e⟩:=ht;have:t.name=u.name:=by have:=F8 Ty.name e;cases t;cases u;simp only[Ty.er,Ty.name]at this |-;exact this
 rw[this];exact eQ h E
theorem QT.right{t:Ty}(ht:QT s t):t.right=true:=by obtain⟨n,a,q⟩:=t;obtain⟨J,E⟩:=ht;simp only[Ty.args,Ty.name]at J E;subst J;rcases E with rfl|⟨u,I,rfl⟩;exact KT (by decide) q;exact KT (AQ (h.mg I) (eQ h I)) q
structure SG(s:Ao)(w:A4):Prop where
 name:isName w.name=true
 A1:w.A1=[]
 params:∀f,f∈w.params->isName f.name=true/\QT s f.type
 result:QT s w.result
theorem SG.right{w:A4}(g:SG s w):w.right=true:=by unfold A4.right Qn Nf;rw[g.name,g.A1,QT.right h g.result];simp only[eC,Ch,EG,Dz,Bh];exact λf E=>⟨(g.params f E).1,QT.right h (g.params f E).2⟩
omit h in
theorem SG.q{w:A4}(g:SG s w):rL (QT s) w:=⟨λf E=>by rw[g.A1]at E;simp at E,λf E=>(g.params f E).2,g.result⟩
theorem SG.call{x:Ty}(E:x∈s.types){c:Be}(L:c∈Kr p s x){g:A4}(O:Hy p c=some g):SG s g:=by obtain⟨g',g1,g2,g3,g4,g5,g6,c0,V,hi,e,hs⟩:=V8 h E L;rw[g6]at O;cases O;obtain⟨Z,n2,_⟩:=h.Bi.call x E c0 V g' hs;obtain⟨_,J⟩:=V3 h E c L;refine⟨uh ?_ λt ht=>(J.targs t ht).mg,rfl,λf U=>?_,QT.of (by have:=n2;rw[e];exact this) 0⟩;rw[<-g2];exact F2 h.Fe.right _ g1;unfold D5 Ge at U;obtain⟨i,y,hy,a0,rfl⟩:=mem_mapIdx U;refine⟨F4p i,QT.of ?_ 0⟩;have I:=Bs hy;obtain⟨z,W,rfl⟩:=Ap.1 I;refine Z _ ?_;unfold Q0;rw[e];exact Ap.2 ⟨z,W,rfl⟩
theorem SG.dum{x:Ty}(L:x∈s.types){g:A4}(I:g∈C3 p [] x):SG s (Gb g):=by have E:=SF h L I;exact⟨zu (F2 h.Fe.right _ (Mj.1 I)) E.A1 E.params E.result,rfl,λf J=>by simp[Gb]at J,QT.top⟩
structure DG(s:Ao)(d:Decl):Prop where
 right:d.right=true
 q:jZ (QT s) d
 bare:Qf d=true
omit h in
theorem ud{k:Int}(J:k=1\/k=2){n:A3}{fs:List Param}{ss:List A4}(L:isName n=true)(E:Nf fs=true)(hs:ss.all A4.right=true)(O:k=1->ss=[])(I:k=2->fs=[]):(headD k n fs ss).right=true:=by unfold Decl.right Decl.Ub;have e:(headD k n fs ss).LL=true:=(show(decide (([]:A3)=[]) && (decide (([]:List A3).length=0) && (Q5 Jg Jg && oI U2 U2)))=true by decide +kernel);rw[e,A5 (show ¬(headD k n fs ss).kind=3 by show ¬k=3;omega)];simp only[headD];rw[L,E,hs];rcases J with rfl|rfl;rw[O rfl];rfl;rw[I rfl];rfl
theorem IK{x:Ty}(O:x∈s.types):DG s (I8 p s x):=by
 have Z:=AQ (h.mg O) (eQ h O);have W:Ku U2=true:=by decide +kernel
 unfold I8;split
 .rename_i V;have L:∀f,f∈G8 (Bc p x)->isName f.name=true/\QT s f.type:=λf L=>by obtain⟨y,J,rfl⟩:=Ap.1 L;refine⟨?_,QT.of (h.Bi.fields x O V y J) 0⟩;unfold Bc at J;rw[A7 V]at J;obtain⟨d,hd,_⟩:=La (by decide) V;rw[hd,Dx]at J;unfold fieldsD at J;obtain⟨z,hz,rfl⟩:=Ap.1 J;have hr:=h.Fe.right;simp only[Prog.right,Bh,Dz]at hr;have hr:=hr.1 d (P3 hd);simp only[Decl.right,Nf,Bh,Dz]at hr;exact(hr.2.2.1 z hz).1
  refine⟨ud (.inl rfl) Z ?_ rfl (λ_=>rfl) (λh=>by omega),⟨by simp[headD],λf E=>(L f E).2,by simp[headD],λI=>absurd I (by simp[headD]),λI=>absurd I (by simp[headD])⟩,?_⟩;unfold Nf;rw[Dz];exact λf E=>by rw[(L f E).1,QT.right h (L f E).2];rfl
  show(decide (0+0+Jg.A1.length=0) && (Ku U2 && Rm []))=true;rw[W];rfl
 .have hs:∀g,g∈T7 p s x->SG s g:=λg hg=>by rcases Bj.1 hg with hg|hg;obtain⟨c,hc,hm⟩:=Md.1 hg;exact SG.call h O hc hm;obtain⟨g',U,rfl⟩:=Ap.1 hg;exact SG.dum h O U
  refine⟨ud (.inr rfl) Z rfl ?_ (λh=>by omega) (λ_=>rfl),⟨by simp[headD],by simp[headD],λg hg=>(hs g hg).q,λI=>absurd I (by simp[headD]),λI=>absurd I (by simp[headD])⟩,?_⟩;rw[Dz];exact λg hg=>SG.right h (hs g hg)
  .show(decide (0+0+Jg.A1.length=0) && (Ku U2 && Rm (T7 p s x)))=true;have:Rm (T7 p s x)=true:=by unfold Rm;rw[Dz];exact λg hg=>by rw[(hs g hg).A1];rfl
   rw[W,this];rfl
theorem DG.Jd{n:A3}(O:isName n=true){r:A3}(hr:isName r=true){g:A4}(E:SG s g){e:Ex}(I:e.right=true)(L:Ku e=true)(J:∀y,y∈B3 e->OC (QT s) y):DG s ⟨3,n,[],[],[],r,[],g,e,0⟩:=by refine⟨?_,⟨by simp,by simp,by simp,λ_=>E.q,λ_=>J⟩,?_⟩;unfold Decl.right Decl.Ub;rw[A7 (show(⟨3,n,[],[],[],r,[],g,e,0⟩:Decl).kind=3 from rfl)];show(isName n && (true && (true && (true && (true && (isName r && (true && (g.right && e.right))))))))=true;rw[O,hr,SG.right h E,I];rfl;show(decide (0+0+g.A1.length=0) && (Ku e && true))=true;rw[E.A1,L];rfl
omit h in
theorem yB{e:Ex}(J:∀y,y∈B3 e->y.kind=3\/y.kind=5->G4 y.type s.types):∀y,y∈B3 (Bt e)->OC (QT s) y:=λy E=>by rw[aM]at E;obtain⟨z,L,rfl⟩:=Ap.1 E;rw[Qp];exact⟨λI=>QT.of (J z L I) _,λt ht=>by simp[Ex.targs]at ht⟩
theorem DG.of{x:Ty}(J:x∈s.types):∀d,d∈Gn p s.calls x->DG s d:=by
 intro d hd;have hn:=AQ (h.mg J) (eQ h J);rw[Yj (h.wf J)]at hd;rcases Ay.1 hd with rfl|hd;exact IK h J;unfold L6 at hd;split at hd
 .rename_i hi;rcases Bj.1 hd with hd|hd
  .obtain⟨c,V,hm⟩:=Md.1 hd;obtain⟨d',g,e1,e2,e3,e4,e5⟩:=X1 h J hi V;rw[hm]at e5;cases e5;obtain⟨g',g1,g2,g3,g4,g5,g6,c0,m0,a2,ec,a1⟩:=V8 h J V;obtain⟨I,E,_,_⟩:=Vq e1;obtain⟨_,_,W⟩:=QU h.Fe.right I E;obtain⟨Z,a0⟩:=V3 h J c V;obtain⟨hq,_,_⟩:=uP h.T8 h.sm h.Fe.right I E a0;rw[Z]at hq;have U:∀y,y∈B3 (M4 d' x c)->y.kind=3\/y.kind=5->G4 y.type s.types:=λy O=>by obtain⟨_,_,n3⟩:=h.Bi.call x J c0 m0 g' a1;have:=n3 d' (by rw[<-e1,ec]) y (by rw[ec]at O;exact O);exact this.1
   refine DG.Jd h hn ?_ ?_ (G1f (kq h.Fe.right I E) W hq λy O hk=>F7z h (U y O hk)) (ke _) (yB U);exact(IU h.Fe.right I E).1;have L:=SG.call h J V e3;refine⟨L.name,rfl,λf hf=>?_,L.result⟩;obtain⟨a,b,ha,hb,rfl⟩:=KL hf;exact⟨(IU h.Fe.right I E).2 b hb,(L.params a ha).2⟩
  obtain⟨g,hg,rfl⟩:=Ap.1 hd;refine DG.Jd h hn (by decide) (SG.dum h J hg) (by rw[LA];decide +kernel) (by decide +kernel) λy O=>?_;rw[show B3 (Ex.mk 3 [] Qc [] [] 0)=[Ex.mk 3 [] Qc [] [] 0] from rfl,Pj]at O;rw[O];exact⟨λ_=>QT.top,λt ht=>by simp[Ex.targs]at ht⟩
 simp at hd
omit h in
theorem DG.top:DG s Ke:=by refine⟨by decide +kernel,⟨by simp[Ke,headD],by simp[Ke,headD],by simp[Ke,headD],λE=>absurd E (by decide),λE=>absurd E (by decide)⟩,by decide +kernel⟩
theorem DG.all:∀d,d∈(Bm p s).decls->DG s d:=λd hd=>by rcases Ay.1 hd with rfl|hd;exact DG.top;obtain⟨x,E,hd⟩:=P4.1 hd;exact DG.of h E d hd
theorem yr:∀y,y∈B3 p.main->y.kind=3\/y.kind=5->G4 y.type s.types:=λy E=>(h.Bi.main y E).1
theorem G8n:∀t,t∈Lj (Bm p s)->QT s t:=MX (λd hd=>(DG.all h d hd).q) (yB (yr h))
theorem fq:Pp (Bm p s)=true:=by unfold Pp Ra;rw[Bh,Bh,Dz,Dz];exact⟨λt ht=>by rw[(G8n h t ht).1];rfl,λd hd=>(DG.all h d hd).bare,ke _⟩
end
def G7c{s:Ao}(h:s.calls.length<=101)(x:Be):(Hi s x).calls.length<=101:=by
 unfold Hi;split;exact h
 .rename_i E;unfold Je;cases e:Gj E8 x s.calls false []with
  |none=>exact h|some R =>have:=(jJ e).2.2;simp only[Ck,Iu,Gi]at this;simp only[Dx];omega
def YV(p:Prog)(s:Ao)(x:Ty):(Kr p s x).length<=101 :=foldI (Q:=λs:Ao=>s.calls.length<=101) (Lg p s.calls x) (λs a _ h=>G7c h a) (Xa _)
def Decl.JU(d:Decl)(n:Int)(O:0<=n)(h:d.count n<=2000):d.sigs.length<=2000:=by unfold Decl.count at h;generalize W:n+1+((d.name.length / 50:Nat):Int)+((d.recv.length / 50:Nat):Int)=m at h;obtain⟨V,_⟩:=bG d.A1 m;obtain⟨Z,_⟩:=cF d.fields (Cf d.A1 m);obtain⟨U,E⟩:=wa d.sigs (Dj d.fields (Cf d.A1 m));obtain⟨I,_⟩:=QD d.vars (Ez d.sigs (Dj d.fields (Cf d.A1 m)));generalize J:Jb d.vars (Ez d.sigs (Dj d.fields (Cf d.A1 m)))=z at*;unfold Decl.S8 at h;obtain⟨f1,_⟩:=A4.H9 d.sig z;have L:=Ex.Fu d.body (d.sig.count z);split at h;have:=(E (by omega) (by omega)).1;omega;omega
def G5d:Pb J8 (λd=>d.sigs.length<=2000):=P1 J8 Decl.count (λd=>d.sigs.length<=2000) (λ_=>rfl) (λ_ _ _=>rfl) (λx k=>(Decl.H9 x k).1) (λx k E h=>Decl.JU x k E h)
def Prog.JU(p:Prog)(h:p.count<=600):p.decls.length<=2000/\∀d,d∈p.decls->d.sigs.length<=2000:=by unfold Prog.count at h;have L:=Ex.Fu p.main 0;obtain⟨O,I⟩:=G5d p.decls (p.main.count 0);obtain⟨J,E⟩:=I (by omega) (by omega);exact⟨by omega,E⟩
def F7y{p:Prog}(h:p.count<=600)(x:Ty):(C3 p [] x).length<=2000:=by obtain⟨J,I⟩:=Prog.JU p h;unfold C3;rw[(Zv _).length_eq];unfold D7;generalize(D3 [] x).getD x=y;split;rename_i E;unfold Hj;rw[A7 E];obtain⟨d,hd,_⟩:=La (by decide) E;rw[hd,Dx];exact Cy (qL _ _ _ _) (I d (P3 hd));split;exact Xa _;exact Cy (WG ..) J
def ME(n:A3)(q:Int):(Ty.mk n [] q).Nn:=by unfold Ty.Nn;rw[OA];simp[Ty.args,Ty.Eg]
def qz:∀e:Ex,(Bt e).Nn:=by intro e;induction e using Ex.induct with|_ e I=>?_;rw[Qp];refine .mk _ _ _ _ _ _ (ME ..) (by simp) λx J=>?_;obtain⟨y,E,rfl⟩:=Ap.1 J;exact I y E
def Oa{e:Ex}(h:(B3 e).length<=2000):(Bt e).Le:=by
 have I:(B3 (Bt e)).length<=2000:=by rw[aM,B7];exact h
 refine⟨I,?_⟩;have:=wI Wi 1 (B3 (Bt e)) λx E=>by rw[aM]at E;obtain⟨y,_,rfl⟩:=Ap.1 E;have:=dX (Bt y);rw[show(Bt y).targs=[] by rw[Qp];rfl]at this;exact this
 unfold Nc Iy;omega
structure DS(d:Decl):Prop where
 le:d.Le
 nn:d.Nn
 ln:d.Ln
def G2d:U2.Le:=⟨by decide +kernel,by decide +kernel⟩
def yx:U2.Nn:=.mk _ _ _ _ _ _ (ME ..) (by simp) (by simp)
def H7h:Jg.Nn:=⟨by decide,by simp[Jg],by simp[Jg],ME ..⟩
def Decl.Le.ln{d:Decl}(h:d.Le)(E:d.vars=[])(I:¬d.kind=3->d.sig.Lm/\d.body.Lm):d.Ln :=⟨Cy h.A1 (by decide),Cy h.fields (by decide),Cy h.xC (by decide),by rw[E];decide,I⟩
def DS.mk2{d:Decl}(h:d.Le)(I:d.Nn)(J:d.vars=[])(E:¬d.kind=3->d.sig.Lm/\d.body.Lm):DS d:=⟨h,I,h.ln J E⟩
def DS.head(k:Int)(n:A3){fs:List Param}{ss:List A4}(O:fs.length<=2000)(J:∀f,f∈fs->f.type.Nn)(L:ss.length<=3000)(I:∀g,g∈ss->g.Le/\g.Nn):DS (headD k n fs ss) :=.mk2 ⟨by simp[headD],O,L,λg E=>(I g E).1,⟨Xa _,Xa _⟩,G2d⟩ ⟨by simp[headD],by simp[headD],by simp[headD],J,λg E=>(I g E).2,H7h,yx⟩ rfl λ_=>⟨zZ,O6⟩
def DS.Jd(n r:A3){g:A4}(E:g.Le/\g.Nn){e:Ex}(J:e.Le)(I:e.Nn):DS ⟨3,n,[],[],[],r,[],g,e,0⟩ :=.mk2 ⟨by simp,by simp,by simp,by simp,E.1,J⟩ ⟨by simp,by simp,by simp,by simp,by simp,E.2,I⟩ rfl λL=>absurd rfl L
section
variable {p:Prog} {s:Ao} (h:Pa p s)
include h
theorem y8{x:Ty}(E:x∈s.types){c:Be}(O:c∈Kr p s x){g:A4}(J:Hy p c=some g):g.Le/\g.Nn:=by obtain⟨L,U,g2,W,g4,Z,V,_⟩:=V8 h E O;rw[V]at J;cases J;have hp:=(DE h.sm h.tl h.Fe.right (h.fd.sm.types.2 x E) (h.fd.types x E).args L (Mj.2 U)).params.1;refine⟨⟨by simp[D5],?_⟩,by simp[D5],by simp[D5],λf I=>?_,ME ..⟩;show(Ge _).length<=2000;unfold Ge;rw[List.length_mapIdx,B7];exact hp;unfold D5 Ge at I;obtain⟨i,y,_,_,rfl⟩:=mem_mapIdx I;exact ME ..
omit h in
theorem O5(g:A4):(Gb g).Le/\(Gb g).Nn:=⟨⟨by simp[Gb],by simp[Gb]⟩,by simp[Gb],by simp[Gb],by simp[Gb],ME ..⟩
theorem p9{x:Ty}(V:x∈s.types):(Gn p s.calls x).length<=2102/\∀d,d∈Gn p s.calls x->DS d:=by have a0:=YV p s x;have a1:=F7y h.T8 x;have I:=Prog.Ru p h.T8;have U:=nC (J4 Bt p) (Kr p s x);have ha:=nC (Hy p) (Kr p s x);rw[Yj (h.wf V)];refine⟨?_,λd hd=>?_⟩;unfold L6;rw[Bg];split;rw[B5,B7];omega;simp;rcases Ay.1 hd with rfl|hd;unfold I8;split;rename_i O;refine DS.head 1 x.mg ?_ (λf W=>?_) (by simp) (by simp);rw[G8,B7];unfold Bc;rw[A7 O];obtain⟨d,hd,_⟩:=La (by decide) O;rw[hd,Dx];unfold fieldsD;rw[B7];exact(I.decls d (P3 hd)).fields;obtain⟨y,_,rfl⟩:=Ap.1 W;exact ME ..;refine DS.head 2 x.mg (by simp) (by simp) ?_ λg hg=>?_;unfold T7;rw[B5,B7];omega;rcases Bj.1 hg with hg|hg;obtain⟨c,L,U⟩:=Md.1 hg;exact y8 h V L U;obtain⟨g',_,rfl⟩:=Ap.1 hg;exact O5 g';unfold L6 at hd;split at hd;rename_i O;rcases Bj.1 hd with hd|hd;obtain⟨c,L,U⟩:=Md.1 hd;obtain⟨J,g,e1,e2,e3,e4,e5⟩:=X1 h V O L;rw[U]at e5;cases e5;have E:=y8 h V L e3;have Z:=(Vq e1).1;refine DS.Jd (g:=⟨(D5 c g).name,[],F7 (D5 c g).params J.sig.params,(D5 c g).result,0⟩) (e:=Bt (M4 J x c)) x.mg J.recv ⟨⟨Xa _,?_⟩,Xa _,by simp,λf W=>?_,E.2.result⟩ (Oa (by unfold M4;rw[wV];exact(I.decls J Z).body.list)) (qz _);simp only[F7,pN];have:=E.1.params;omega;obtain⟨a,b,ha,_,rfl⟩:=KL W;exact E.2.params a ha;obtain⟨g,hg,rfl⟩:=Ap.1 hd;exact DS.Jd x.mg [114] (O5 g) (e:=.mk 3 [] Qc [] [] 0) ⟨by show(1:Nat)<=2000;decide,by show(1:Nat)<=2000;decide⟩ (.mk _ _ _ _ _ _ (ME ..) (by simp) (by simp));simp at hd
theorem G7b:∀d,d∈(Bm p s).decls->DS d:=λd hd=>by rcases Ay.1 hd with rfl|hd;exact DS.head 1 Lb (by simp) (by simp) (by simp) (by simp);obtain⟨x,E,hd⟩:=P4.1 hd;exact(p9 h E).2 d hd
theorem VZ:(Bm p s).Le:=by
 refine⟨?_,λd hd=>(G7b h d hd).le,Oa (Prog.Ru p h.T8).main.list⟩;have key:∀l:List Ty,(∀x,x∈l->x∈s.types)->(l.flatMap (Gn p s.calls)).length<=l.length*2102:=by
  intro l
  induction l with
  |nil=>intro _;simp|cons x l I =>intro E;have O:=(p9 h (E x (by simp))).1;have J:=I λy L=>E y (by simp[L]);rw[Ww,B5,Bg];omega
 have O:=key s.types λ_ h=>h;have J:=h.fd.len;show(Ke::s.types.flatMap (Gn p s.calls)).length<=200000;rw[Bg];omega
end
def ZR{α:Type}(F:List α->Int->Int)(g:α->Int->Int)(J:∀k,F [] k=k)(L:∀x xs k,F (x::xs) k=if k<=2000 then F xs (g x k)else k)(E:∀x k,k+1<=g x k) :∀(l:List α) (k:Int),F l k<=2000->k+l.length<=F l k/\∀t,t∈l->∃I,k<=I/\g t I<=F l k
 |[],k,h=>by rw[J];simp
 |t::O,k,h=>by
  rw[L]at h |-;split at h
  .rename_i U;rw[A7 U];obtain⟨a,b⟩:=ZR F g J L E O (g t k) h;have:=E t k;refine⟨by rw[Bg];omega,λu hu=>?_⟩;rcases Ay.1 hu with rfl|hu
   .exact⟨k,Int.le_refl _,by omega⟩
   .obtain⟨I,W,V⟩:=b u hu;exact⟨I,by omega,V⟩
  .omega
def GB(p:Prog)(h:p.count<=600):p.decls.length<=600/\∀d,d∈p.decls->d.sigs.length<=600:=by
 unfold Prog.count at h;have V:=Ex.Fu p.main 0;obtain⟨a,b⟩:=ZR J8 Decl.count (λ_=>rfl) (λ_ _ _=>rfl) (λx k=>(Decl.H9 x k).1) p.decls (p.main.count 0) (by omega);refine⟨by omega,λd hd=>?_⟩;obtain⟨n,E,U⟩:=b d hd;have h:d.count n<=600:=by omega
 unfold Decl.count at h;generalize W:n+1+((d.name.length / 50:Nat):Int)+((d.recv.length / 50:Nat):Int)=m at h;obtain⟨O,_⟩:=bG d.A1 m;obtain⟨E,_⟩:=cF d.fields (Cf d.A1 m);have c:=ZR Ez A4.count (λ_=>rfl) (λ_ _ _=>rfl) (λx k=>(A4.H9 x k).1) d.sigs (Dj d.fields (Cf d.A1 m));obtain⟨I,_⟩:=QD d.vars (Ez d.sigs (Dj d.fields (Cf d.A1 m)));generalize J:Jb d.vars (Ez d.sigs (Dj d.fields (Cf d.A1 m)))=z at*;unfold Decl.S8 at h;obtain⟨f1,_⟩:=A4.H9 d.sig z;have L:=Ex.Fu d.body (d.sig.count z);split at h;have:=(c (by omega)).1;omega;omega
def RZ{p:Prog}(h:p.count<=600)(x:Ty):(C3 p [] x).length<=600:=by obtain⟨J,I⟩:=GB p h;unfold C3;rw[(Zv _).length_eq];unfold D7;generalize(D3 [] x).getD x=y;split;rename_i E;unfold Hj;rw[A7 E];obtain⟨d,hd,_⟩:=La (by decide) E;rw[hd,Dx];exact Cy (qL _ _ _ _) (I d (P3 hd));split;exact Xa _;exact Cy (WG ..) J
def jc:∀{e y:Ex},y∈B3 e->y.name.length<=e.Uo:=by intro e;induction e using Ex.induct with|_ e I=>?_;intro y hy;rw[uB];rw[L0,Ay]at hy;rcases hy with rfl|hy;omega;obtain⟨k,E,hy⟩:=xK.1 hy;have L:=I k E hy;have J:=eT E;omega
def G5g{v:List A3}{a:List Ty}:∀{e y:Ex},y∈B3 (e.subst v a)->∃z,z∈B3 e/\y.name=z.name:=by intro e;induction e using Ex.induct with|_ e J=>?_;intro y hy;rw[Qi,L0,Ay]at hy;rcases hy with rfl|hy;exact⟨e,by rw[L0];simp,rfl⟩;obtain⟨k,O,hy⟩:=xK.1 hy;obtain⟨k0,E,rfl⟩:=Ap.1 O;obtain⟨z,L,I⟩:=J k0 E hy;exact⟨z,by rw[L0];exact rN _ (xK.2 ⟨k0,E,L⟩),I⟩
def z7{B:Nat}(hB:B<=1000000000000):∀{e:Ex},e.Sm->e.Nq B->e.Rs->(∀y,y∈B3 e->y.name.length<=1000000)->(Bt e).Sm:=by
 intro e;induction e using Ex.induct with|_ e U=>?_;intro hs J hr O;rw[Qp];have Z:=O e (by rw[L0];simp);obtain⟨W,V⟩:=J.targs;refine .mk _ _ _ _ _ _ ?_ (.mk _ _ _ ?_ (by simp) (by simp)) (by simp) (by simp) (by rw[B7];exact hs.kids.1) λk hk=>?_;split;unfold Gm;have L:=nI e.name;have I:=vU e.targs;rw[B5];unfold sm;omega;unfold sm;omega
 .rcases hr.type with hk|hk|⟨L,I⟩;have:=(J.type (.inl hk)).len;have:=CA e.type;unfold sm;omega;have:=(J.type (.inr hk)).len;have:=CA e.type;unfold sm;omega
  .have:e.type.mg=[]:=by have:=ZV e.type.pos;cases ht:e.type with|mk n a q=>rw[ht]at L I this;simp only[Ty.name,Ty.args,Ty.pos]at L I this;subst L;subst I;exact this
   rw[this];simp
 obtain⟨k0,E,rfl⟩:=Ap.1 hk;exact U k0 E (hs.kids.2 k0 E) (J.kids k0 E) (hr.kids k0 E) λy hy=>O y (by rw[L0];exact rN _ (xK.2 ⟨k0,E,hy⟩))
section
variable {p:Prog} {s:Ao} (h:Pa p s)
include h
theorem G5z{x:Ty}(E:x∈s.types):(Gn p s.calls x).length<=702:=by rw[Yj (h.wf E),Bg];unfold L6;split;have J:=YV p s x;have L:=RZ h.T8 x;have I:=nC (J4 Bt p) (Kr p s x);rw[B5,B7];omega;simp
theorem nS:(Bm p s).decls.length<=100000:=by have J:=wI (Gn p s.calls) 702 s.types λx E=>G5z h E;have I:=h.fd.len;show(Ke::s.types.flatMap (Gn p s.calls)).length<=_;rw[Bg];have:s.types.length*702<=60*702:=Ih _ (by omega);omega
theorem PT{t:Ty}(ht:QT s t):t.Sm:=by obtain⟨n,a,q⟩:=t;obtain⟨I,E⟩:=ht;simp only[Ty.args,Ty.name]at I E;subst I;refine .mk _ _ _ ?_ (by simp) (by simp);rcases E with rfl|⟨u,J,rfl⟩;decide;have O:=CA u;have L:=(h.fd.types u J).len;unfold sm;omega
theorem jf{x:Ty}(O:x∈s.types){w:A4}(hw:w∈K8 p s x)(I:SG s w):w.Sm/\w.params.length<=2000:=by
 have a1:=λg I=>DE h.sm h.tl h.Fe.right (h.fd.sm.types.2 x O) (h.fd.types x O).args g (Mj.2 I);have key:∀{w:A4},SG s w->w.name.length<=60000000*sm->w.params.length<=2000->(∀f,f∈w.params->f.name.length<=60000000*sm)->w.Sm/\w.params.length<=2000:=λI Z h2 W =>⟨⟨Z,by rw[I.A1];simp,⟨by unfold sm;omega,λf E=>⟨W f E,PT h (I.params f E).2⟩⟩,PT h I.result⟩,h2⟩;rcases(CE h O).1 hw with⟨c,g,hc,ha,L,hn,hh⟩|⟨g,L,rfl⟩
 .have J:=a1 g L;have a0:=(V3 h O c hc).2;have V:(Gm c.name c.targs).length<=60000000*sm:=by unfold Gm;have Z:=nI c.name;have h2:=vU c.targs;have W:=J.nm;rw[hn]at W;have h4:=a0.tl;rw[B5];unfold sm;omega
  have U:(D5 c g).params.length=g.params.length:=by show(Ge _).length=_;rw[DH,B7]
  split at hh;obtain⟨d,hd,rfl⟩:=hh;obtain⟨a2,_⟩:=Vq hd;refine key I V ?_ λf E=>?_;show(F7 (D5 c g).params d.sig.params).length<=2000;unfold F7;rw[pN,U];have:=J.params.1;omega;obtain⟨a,b,_,hb,rfl⟩:=KL E;exact((h.sm.decls.2 d a2).sig.params.2 b hb).name;rw[hh]at I |-;refine key I V (by rw[U];exact J.params.1) λf E=>?_;have E:f∈Ge (g.params.map (Param.subst (Ad g.A1) c.targs)):=E;unfold Ge at E;obtain⟨i,y,hy,a3,rfl⟩:=mem_mapIdx E;have Z:=(Az.1 hy).1;rw[B7]at Z;have h2:=J.params.1;have W:=hQ i (by omega);simp only[Uv,B5,Bg,Ck];unfold sm;omega
 .refine key I ?_ (by simp[Gb]) λf E=>by simp[Gb]at E
  have:=((DE h.sm h.tl h.Fe.right (h.fd.sm.types.2 x O) (h.fd.types x O).args g L).mono (C:=1200000000) (by decide)).JY;show(L7 g).length<=_;unfold sm;omega
omit h in
theorem BS{k:Int}{n:A3}{fs:List Param}{ss:List A4}(J:n.length<=60000000*sm)(I:fs.length<=sm/\∀f,f∈fs->f.Sm)(E:ss.length<=sm/\∀g,g∈ss->g.Sm):(headD k n fs ss).Sm :=⟨J,by simp[headD],I,E,by simp[headD],by simp[headD],⟨by simp[headD,Jg],by simp[headD,Jg],by simp[headD,Jg],.mk _ _ _ (by simp) (by simp) (by simp)⟩,jl⟩
theorem YN{x:Ty}(E:x∈s.types):x.mg.length<=60000000*sm:=by have I:=CA x;have J:=(h.fd.types x E).len;unfold sm;omega
theorem G5k{x:Ty}(E:x∈s.types):∀d,d∈Gn p s.calls x->d.Sm/\d.sig.params.length<=2000:=by
 intro d hd;have U:=DG.of h E d hd;rw[Yj (h.wf E)]at hd;rcases Ay.1 hd with rfl|hd
 .have hz:(I8 p s x).sig=Jg:=by unfold I8;split <;> rfl
  refine⟨?_,by rw[hz];simp[Jg]⟩;by_cases J:B9 p x 1=true
  .have e:I8 p s x=headD 1 x.mg (G8 (Bc p x)) []:=by unfold I8;rw[A7 J]
   rw[e]at U |-;refine BS (YN h E) ⟨?_,λf Z=>⟨?_,PT h (U.q.fields f Z)⟩⟩ (by simp)
   unfold G8;rw[B7];exact NJ h.sm x;obtain⟨y,hy,rfl⟩:=Ap.1 Z;exact(wH h.sm (h.fd.sm.types.2 x E) y hy).name
  .have e:I8 p s x=headD 2 x.mg [] (T7 p s x):=by unfold I8;rw[A5 J]
   have e2:K8 p s x=T7 p s x:=by unfold K8;rw[A5 J]
   rw[e];refine BS (YN h E) (by simp) ⟨?_,λg hg=>(jf h E (by rw[e2];exact hg) ?_).1⟩;unfold T7;have h1:=YV p s x;have h2:=RZ h.T8 x;have h3:=nC (Hy p) (Kr p s x);rw[B5,B7];unfold sm;omega;rcases Bj.1 hg with hg|hg;obtain⟨c,L,V⟩:=Md.1 hg;exact SG.call h E L V;obtain⟨g',a0,rfl⟩:=Ap.1 hg;exact SG.dum h E a0
 .have J:B9 p x 1=true:=by unfold L6 at hd;split at hd;assumption;simp at hd
  have a4:d.sig∈K8 p s x:=by unfold K8;rw[A7 J];exact List.mem_map_of_mem (f:=λd:Decl=>d.sig) hd
  obtain⟨m1,m2,m3,m4,m5⟩:=Wz h E hd;have a1:SG s d.sig:=by unfold L6 at hd;rw[A7 J]at hd;rcases Bj.1 hd with hd|hd;obtain⟨c,L,V⟩:=Md.1 hd;obtain⟨d',g,e1,e2,e3,e4,W⟩:=X1 h E J L;rw[V]at W;cases W;obtain⟨I,O,_,_⟩:=Vq e1;have hs:=SG.call h E L e3;refine⟨hs.name,rfl,λf Z=>?_,hs.result⟩;obtain⟨a,b,ha,hb,rfl⟩:=KL Z;exact⟨(IU h.Fe.right I O).2 b hb,(hs.params a ha).2⟩;obtain⟨g,hg,rfl⟩:=Ap.1 hd;exact SG.dum h E hg
  obtain⟨s1,s2⟩:=jf h E a4 a1;refine⟨?_,s2⟩;unfold L6 at hd;rw[A7 J]at hd;rcases Bj.1 hd with hd|hd;obtain⟨c,L,V⟩:=Md.1 hd;obtain⟨d',g,e1,e2,e3,e4,W⟩:=X1 h E J L;rw[V]at W;cases W;obtain⟨I,O,_,_⟩:=Vq e1;obtain⟨a2,a3⟩:=V3 h E c L;obtain⟨b1,b2,b3⟩:=uP h.T8 h.sm h.Fe.right I O a3;rw[a2]at b1 b2 b3;have a5:=(Prog.uI p h.T8).1 d' I;refine⟨YN h E,by simp,by simp,by simp,(h.sm.decls.2 d' I).recv,by simp,s1,z7 (by decide) b2 b1 b3 λy hy=>?_⟩;obtain⟨z,hz,e⟩:=G5g hy;have:=jc hz;rw[e];omega;obtain⟨g,hg,rfl⟩:=Ap.1 hd;exact⟨YN h E,by simp[Io],by simp[Io],by simp[Io],by simp[Io,sm],by simp[Io],s1,.mk _ _ _ _ _ _ (by simp) (.mk _ _ _ (by decide) (by simp) (by simp)) (by simp) (by simp) (by simp) (by simp)⟩
theorem o9:(Bm p s).Fit:=by
 have E:∀d,d∈(Bm p s).decls->d.Sm/\d.sig.params.length<=2000:=λd hd=>by rcases Ay.1 hd with rfl|hd;exact⟨BS (by decide) (by simp) (by simp),by simp[Ke,headD,Jg]⟩;obtain⟨x,I,hd⟩:=P4.1 hd;exact G5k h I d hd
 have hl:=nS h;obtain⟨W,q2⟩:=yh h.T8 h.sm h.Fe.right;have L:∀d,d∈(Bm p s).decls->d.A1=[]/\d.vars=[]/\d.sig.A1=[]/\∀g,g∈d.sigs->g.A1=[]:=λd hd=>by
  rcases Ay.1 hd with rfl|hd;exact⟨rfl,rfl,rfl,by simp[Ke,headD]⟩
  .obtain⟨x,I,hd⟩:=P4.1 hd;rw[Yj (h.wf I)]at hd;rcases Ay.1 hd with rfl|hd;unfold I8;split;exact⟨rfl,rfl,rfl,by simp[headD]⟩;rename_i O;refine⟨rfl,rfl,rfl,λg J=>NM h I ?_⟩;unfold K8;rw[A5 O];exact J
   .obtain⟨m1,m2,m3,m4,Z⟩:=Wz h I hd;refine⟨m4,m3,Z,λg J=>?_⟩;have:d.sigs=[]:=by unfold L6 at hd;split at hd;rename_i O;rcases Bj.1 hd with hd|hd;obtain⟨c,V,hm⟩:=Md.1 hd;obtain⟨_,_,_,_,_,_,U⟩:=X1 h I O V;rw[hm]at U;cases U;rfl;obtain⟨g,_,rfl⟩:=Ap.1 hd;rfl;simp at hd
    rw[this]at J;simp at J
 refine⟨⟨⟨by unfold sm;omega,λd hd=>(E d hd).1⟩,z7 (B:=240000) (by decide) h.sm.main W q2 λy hy=>?_⟩,hl,λd hd=>?_,λd hd=>by have:=(E d hd).2;unfold sm;omega⟩;have h1:=jc hy;have h2:=(Prog.uI p h.T8).2;omega;obtain⟨f1,f2,f3,f4⟩:=L d hd;exact⟨λg J=>by rw[f1,f4 g J];simp,by rw[f2,f3];simp⟩
end
def xZ{α:Type}{R:α->α->Prop}{l:List α}(hp:l.Pairwise R){i:Nat}{d:α}(hd:l[i]?=some d):∀x,x∈l.take i->R x d:=by intro x I;obtain⟨k,J,rfl⟩:=List.mem_take_iff_getElem.1 I;obtain⟨E,rfl⟩:=Az.1 hd;exact LG.1 hp k i (by omega) E (by omega)
def G3i(a b:Decl):Prop:=(∀nm,a.E5 nm=true->b.E5 nm=true->False)/\∀nm m,E2 nm m a=true->E2 nm m b=true->False
def RH{nm m:A3}{d:Decl}:E2 nm m d=true↔d.kind=3/\d.name=nm/\d.sig.name=m:=by simp[E2,and_assoc]
def SS{p:Prog}{env:List Aj}:∀(l:List Param)(pre:List A3),(l.map (·.name)).Nodup->(∀f,f∈l->f.name∉pre)->(∀f,f∈l->Br p env f.type=none)->Kc p env pre l=none
 |[],_,_,_,_=>rfl|f::fs,pre,I,hp,J=>by rw[Kc,A5 (hp f (by simp)),J f (by simp)];simp only[Cj,Vm]at I;refine SS fs _ I.2 (λg E=>?_) λg E=>J g (by simp[E]);rw[Bj,Pj];rintro(h1|h1);exact hp g (by simp[E]) h1;exact I.1 (h1 ▸ List.mem_map_of_mem (f:=λf:Param=>f.name) E)
def XT{p:Prog}{env:List Aj}:∀{l:List Param} {pre:List A3},Kc p env pre l=none->(l.map (·.name)).Nodup/\∀f,f∈l->f.name∉pre
 |[],_,_=>by simp|f::fs,pre,h=>by rw[Kc]at h;split at h;cases h;rename_i I;split at h;cases h;obtain⟨a,b⟩:=XT h;refine⟨Vm.2 ⟨λJ=>?_,a⟩,λg hg=>?_⟩;obtain⟨g,hg,e⟩:=Ap.1 J;exact b g hg (by simp[e]);rcases Ay.1 hg with rfl|hg;exact I;exact λE=>b g hg (by simp[E])
def NX{p:Prog}{env:List Aj}:∀(l:List A4)(pre:List A3),(l.map (·.name)).Nodup->(∀f,f∈l->f.name∉pre)->(∀f,f∈l->Iw p env f=none)->Pu p env pre l=none
 |[],_,_,_,_=>rfl|f::fs,pre,I,hp,J=>by rw[Pu,A5 (hp f (by simp)),J f (by simp)];simp only[Cj,Vm]at I;refine NX fs _ I.2 (λg E=>?_) λg E=>J g (by simp[E]);rw[Bj,Pj];rintro(h1|h1);exact hp g (by simp[E]) h1;exact I.1 (h1 ▸ List.mem_map_of_mem (f:=λf:A4=>f.name) E)
def mr{i j:Nat}(h:Lib.itoa (i:Int)=Lib.itoa (j:Int)):i=j:=by
 rw[Uv,Uv]at h;have E:=ig i;rw[h,ig j]at E;have I:(i:Int)=j:=by simpa using E.symm
 omega
def fG(n:A3)(q:Int):(Ty.mk n [] q).count 0=1+((n.length / 50:Nat):Int):=by rw[Ty.count_eq];simp only[Ty.args,Ty.name,Ty.Ct];omega
def H7k{z y:Ex}:∀{e:Ex},z∈B3 e->y∈B3 z->y∈B3 e:=by intro e;induction e using Ex.induct with|_ e L=>?_;intro E I;rcases fU.1 E with rfl|⟨k,J,E⟩;exact I;exact fU.2 (.inr ⟨k,J,L k J E I⟩)
section
variable {p:Prog} {s:Ao} (h:Pa p s)
include h
theorem IT{t:Ty}(ht:QT s t):Br (Bm p s) [] t=none:=by obtain⟨n,a,q⟩:=t;obtain⟨I,E⟩:=ht;simp only[Ty.args,Ty.name]at I E;subst I;rcases E with rfl|⟨u,J,rfl⟩;exact bY q;exact kT h J q
theorem pb{w:A4}(E:w.A1=[])(I:(w.params.map (·.name)).Nodup)(hp:∀f,f∈w.params->QT s f.type)(hr:QT s w.result):Iw (Bm p s) [] w=none:=by unfold Iw;rw[E,show Pn (Bm p s) [] []=none from rfl];simp only[Fv];rw[SS w.params [] I (by simp) λf E=>IT h (hp f E)];exact IT h hr
theorem G2q:s.types.Pairwise λx y=>x.mg≠y.mg:=by refine List.Pairwise.imp_of_mem ?_ h.Bi.types;intro a b I L E J;have:=KV h I L J;subst this;have:=(U5 a a).2 rfl;omega
theorem IX:(Bm p s).decls.Pairwise G3i:=by
 unfold Bm;simp only;refine Tm.2 ⟨λd hd=>?_,List.pairwise_flatMap.2 ⟨λx J=>?_,?_⟩⟩;obtain⟨x,J,hd⟩:=P4.1 hd;have hn:=YM h J hd;refine⟨λnm E L=>mX (h.mg J) ?_,λnm m E _=>?_⟩;rw[<-hn,(pD.1 L).2];exact(pD.1 E).2;have:=(RH.1 E).1;cases this
 .rw[Yj (h.wf J)];obtain⟨_,hk⟩:=CI (p:=p) (s:=s) x;refine Tm.2 ⟨λd hd=>⟨λnm _ L=>?_,λnm m E _=>?_⟩,?_⟩;have:=(Wz h J hd).2.1;have:=(pD.1 L).1;omega;have:=(RH.1 E).1;omega
  .have O:((L6 p s x).map λd=>d.sig.name).Nodup:=by by_cases V:B9 p x 1=true;have:=dV h J;unfold K8 at this;rw[A7 V,Dn]at this;exact this;unfold L6;rw[A5 V];simp
   unfold List.Nodup at O;rw[List.pairwise_map]at O;refine List.Pairwise.imp_of_mem ?_ O;intro a b U W I;refine⟨λnm E _=>?_,λnm m E L=>I ?_⟩;have:=(Wz h J U).2.1;have:=(pD.1 E).1;omega;rw[(RH.1 E).2.2,(RH.1 L).2.2]
 refine List.Pairwise.imp_of_mem ?_ (G2q h);intro x y J Z I a U b W;have E:=YM h J U;have L:=YM h Z W;refine⟨λnm k1 k2=>I ?_,λnm m k1 k2=>I ?_⟩;rw[<-E,<-L,(pD.1 k1).2,(pD.1 k2).2];rw[<-E,<-L,(RH.1 k1).2.1,(RH.1 k2).2.1]
theorem F8z{i:Nat}{d:Decl}(hd:(Bm p s).decls[i]?=some d)(L:d.kind=1\/d.kind=2):findD d.name (Bm p s).decls 0=(i:Int):=by have ht:d.E5 d.name=true:=pD.2 ⟨L,rfl⟩;have:=TU d.name (Bm p s).decls i 0 d hd ht;rw[Kf]at this;refine KG λE=>?_;obtain⟨x,J,I⟩:=List.any_eq_true.1 (this.1 E);exact(xZ (IX h) hd x J).1 _ I ht
theorem H1c{i:Nat}{d:Decl}(hd:(Bm p s).decls[i]?=some d)(L:d.kind=3):N4 (Bm p s) d.name d.sig.name=(i:Int):=by have ht:E2 d.name d.sig.name d=true:=RH.2 ⟨L,rfl,rfl⟩;have:=l7 (E2 d.name d.sig.name) (Bm p s).decls i d hd ht;refine KG λE=>?_;obtain⟨x,J,I⟩:=List.any_eq_true.1 (this.1 E);exact(xZ (IX h) hd x J).2 _ _ I ht
omit h in
theorem F8r(l:List Param):(G8 l).map (·.name)=l.map (·.name):=by unfold G8;rw[Dn];rfl
omit h in
theorem GR:∀{ps qs:List Param},(F7 ps qs).map (·.name)=(qs.take ps.length).map (·.name)
 |[],qs=>by simp[F7]|_::_,[]=>by simp[F7]|p::ps,q::qs=>by have E:=GR (ps:=ps) (qs:=qs);unfold F7 at E |-;simp only[List.zipWith_cons_cons,Cj,Bg,RC,E]
omit h in
theorem H3h(l:List Param):((Ge l).map (·.name)).Nodup:=by unfold Ge List.Nodup;rw[LG];intro i j J L I E;simp only[List.getElem_map,List.getElem_mapIdx,Kn,Wv,Ya,Qx]at E;have:=mr E;omega
theorem XX{d:Decl}(hd:d∈p.decls)(J:d.kind=3):(d.sig.params.map (·.name)).Nodup/\∀f,f∈d.sig.params->f.name≠d.recv:=by
 obtain⟨i,I⟩:=Lx hd;have E:=h.Fe.head i d I;unfold Pm at E;rw[A5 (by omega),A7 J]at E;unfold xD at E;split at E
 .cases E
 split at E
 .cases E
 split at E
 .cases E
 cases hs:Iw p (Fq p d) d.sig with
 |some q=>rw[hs]at E;cases E|none =>rw[hs]at E;unfold HL at E;simp only[Option.map_eq_none_iff,List.find?_eq_none,Di]at E;refine⟨?_,E⟩;unfold Iw at hs;split at hs;cases hs;split at hs;cases hs;rename_i hp;exact(XT hp).1
theorem G7j{x:Ty}(J:B9 p x 1=true):((Bc p x).map (·.name)).Nodup:=by
 obtain⟨d,hd,_⟩:=La (by decide) J;obtain⟨L,V,U⟩:=eF hd;have O:d.kind=1:=by have:=(Pf J).1;unfold kindOf at this;unfold Ec at hd;rw[hd]at this;exact this
 obtain⟨i,I⟩:=Lx U;have E:=h.Fe.head i d I;unfold Pm at E;rw[A7 L]at E;unfold Z5 at E;split at E;cases E;split at E;cases E;split at E;cases E;rename_i hp;have:=(XT hp).1;unfold Bc;rw[A7 J,hd,Dx];unfold fieldsD;rw[Dn];exact this
theorem ll{x:Ty}(U:x∈s.types){w:A4}(J:w∈K8 p s x):(w.params.map (·.name)).Nodup:=by rcases(CE h U).1 J with⟨c,g,V,W,I,Z,E⟩|⟨g,I,rfl⟩;split at E;obtain⟨d,hd,rfl⟩:=E;obtain⟨O,L,_⟩:=Vq hd;show((F7 (D5 c g).params d.sig.params).map (·.name)).Nodup;rw[GR];have:=(XX h O L).1;exact this.sublist (List.Sublist.map _ (List.take_sublist _ _));rw[E];exact H3h _;simp[Gb]
theorem F7q(hl:(Bm p s).decls.length<=100000):HW (Bm p s):=by
 intro i d hd;have hdm:=Bs hd;have I:=DG.all h d hdm;have V:d=Ke\/∃x,x∈s.types/\d∈Gn p s.calls x:=by rcases Ay.1 hdm with rfl|hdm;exact .inl rfl;obtain⟨x,E,hd⟩:=P4.1 hdm;exact .inr ⟨x,E,hd⟩
 have Fe:d.kind=1\/d.kind=2->d.A1=[]->(d.kind=1->(d.fields.map (·.name)).Nodup/\¬Way (Bm p s) d.name d.name)->(¬d.kind=1->(d.sigs.map (·.name)).Nodup/\∀w,w∈d.sigs->w.A1=[]/\(w.params.map (·.name)).Nodup)->Pm (Bm p s) i d=none:=by intro L U h1 h2;unfold Pm;rw[A7 L];unfold Z5;rw[A5 (by rw[F8z h hd L];simp),U,show Pn (Bm p s) [] []=none from rfl];simp only;split;rename_i k1;rw[SS d.fields [] (h1 k1).1 (by simp) λf U=>IT h (I.q.fields f U)];simp only;rw[A5];intro hm;exact(h1 k1).2 (((GM _ hl _).2 _).1 hm);rename_i k1;exact NX d.sigs [] (h2 k1).1 (by simp) λw O=>pb h ((h2 k1).2 w O).1 ((h2 k1).2 w O).2 (I.q.sigs w O).params (I.q.sigs w O).result
 rcases V with rfl|⟨x,E,hdx⟩;exact Fe (.inl rfl) rfl (λ_=>⟨by simp[Ke,headD],pt⟩) λL=>absurd rfl L
 .rw[Yj (h.wf E)]at hdx;rcases Ay.1 hdx with rfl|hdx
  .obtain⟨e1,e2⟩:=CI (p:=p) (s:=s) x;by_cases J:B9 p x 1=true
   .have e:I8 p s x=headD 1 x.mg (G8 (Bc p x)) []:=by unfold I8;rw[A7 J]
    rw[e]at Fe |-;refine Fe (.inl rfl) rfl (λ_=>⟨?_,G8z h E⟩) λL=>absurd rfl L;show((G8 (Bc p x)).map (·.name)).Nodup;rw[F8r];exact G7j h J
   .have e:I8 p s x=headD 2 x.mg [] (T7 p s x):=by unfold I8;rw[A5 J]
    rw[e]at Fe |-;refine Fe (.inr rfl) rfl (λL=>absurd L (by simp[headD])) λ_=>?_;have e2:K8 p s x=T7 p s x:=by unfold K8;rw[A5 J]
    have hn:=dV h E;rw[e2]at hn;exact⟨hn,λw O=>⟨NM h E (by rw[e2];exact O),ll h E (by rw[e2];exact O)⟩⟩
  .obtain⟨m1,m2,m3,m4,m5⟩:=Wz h E hdx;have J:B9 p x 1=true:=by unfold L6 at hdx;split at hdx;assumption;simp at hdx
   have a2:kindOf (Bm p s) x.mg=1:=by rw[ZO h E,A7 J]
   have Z:Fq (Bm p s) d=[]:=by unfold Fq;rw[m1,hJ h E];rfl
   have a3:d.sig∈K8 p s x:=by unfold K8;rw[A7 J];exact List.mem_map_of_mem (f:=λd:Decl=>d.sig) hdx
   unfold Pm;rw[A5 (by omega),A7 m2];unfold xD;rw[m1,A5 (by rw[a2,m3,hJ h E];simp),m3,show W9 (Bm p s) [] []=false from rfl,A5 (by simp)];have W:=H1c h hd m2;rw[m1]at W;rw[A5 (by rw[W];simp),Z,pb h m5 (ll h E a3) (I.q.sig m2).params (I.q.sig m2).result];unfold HL;simp only[Option.map_eq_none_iff,List.find?_eq_none,Di];intro f U;unfold L6 at hdx;rw[A7 J]at hdx;rcases Bj.1 hdx with hdx|hdx;obtain⟨c,hc,hm⟩:=Md.1 hdx;obtain⟨d',g,e1,_,_,_,e5⟩:=X1 h E J hc;rw[hm]at e5;cases e5;obtain⟨a1,a0,_⟩:=Vq e1;obtain⟨a,b,_,hb,rfl⟩:=KL U;exact(XX h a1 a0).2 b hb;obtain⟨g,_,rfl⟩:=Ap.1 hdx;simp[Io,Gb]at U
end
def ki{c:Cd}:∀(E:List Ty)(es:List Ex),(∀(i:Nat)(w:Ty)(k:Ex),E[i]?=some w->es[i]?=some k->∃K,Da c k=(K,Gx)/\Cr c.p c.env K w=true)->Ka c E es (es.map (Da c))=Gx
 |[],es,_=>by cases es <;> rfl|_::_,[],_=>rfl
 |w::E,e::es,L=>by
  obtain⟨K,J,I⟩:=L 0 w e rfl rfl;have O:P5 c w e (Da c e)=Gx:=by unfold P5;rw[J,A5 (by simp[I])]
  rw[Cj,Ka,O,A5 (by simp[Gx])];exact ki E es λi w k J I=>L (i+1) w k (by simpa using J) (by simpa using I)
def mc{t:Ty}(h:t.count 0<=400):Qy (t,Gx)=(t,Gx):=by unfold Qy;rw[A5 (by simp only;omega)]
def Nl{c:Cd}:∀(e:Ex)(t:Ty),(∀y,y∈B3 e->∀u,Dc c y=(u,none)->u.count 0<=400)->Dc c e=(t,none)->Da c e=(t,Gx):=by
 intro e;induction e using Ex.induct with|_ e ih=>?_;intro t hs ht;have L:∀k,k∈e.kids->∀K,Dc c k=(K,none)->Da c k=(K,Gx):=λk L K U=>ih k L K (λy hy=>hs y (HO L hy)) U;have kid:∀(W:List Ty) (es:List Ex),(∀k,k∈es->k∈e.kids)->Si c W es->Ka c W es (es.map (Da c))=Gx:=λW es a2 U=>ki W es λi w k V h2=>by obtain⟨K,g1,g2⟩:=U.2 i w k V h2;exact⟨K,L k (a2 k (Bs h2)) K g1,g2⟩
 have J:=hs e (AU e) t ht;rw[wM];unfold vD;rcases Jc.1 ht with⟨k1,k,f,V,hf,rfl⟩|⟨k3,Z,O,U,rfl⟩|⟨v,vs,x,I,hx,hh⟩;rw[A7 k1];unfold yF;rw[V,Ic,hf];simp only;rw[A5 (by omega)];rw[A5 (by omega),A7 k3];unfold LI;rw[Z];simp only;have hl:=U.1;rw[B7]at hl;rw[A5 (by simp[O,hl]),kid _ _ (λ_ h=>h) U]
 .have a1:v∈e.kids:=by rw[I];simp
  have hv:=L v a1 x hx;have E:¬e.kind=1/\¬e.kind=3/\¬(e.kind≠2/\e.kind≠4/\e.kind≠5):=by rcases hh with⟨k,_⟩|⟨k,_⟩|⟨k,_⟩ <;> omega
  rw[A5 E.1,A5 E.2.1,A5 E.2.2,I,Cj];simp only;rw[hv,A5 (by simp[Gx])];rcases hh with⟨k2,g,hg,a0,rfl⟩|⟨k4,O,k,f,V,hf,rfl⟩|⟨k5,Z,hp,rfl⟩;rw[A7 k2];unfold zE;rw[hg];simp only;rw[I,List.tail_cons,kid _ _ (λk L=>by rw[I];simp[L]) a0];exact mc J;rw[A5 (by omega),A7 k4];unfold Zp;rw[A5 (by simp[O]),V,Ic,hf];simp only;rw[A5 (by omega)];exact mc J;rw[A5 (by omega),A5 (by omega)];unfold NI;rw[Z];simp only;rw[A5];rintro⟨q1,q2⟩;rw[hp q1]at q2;cases q2
section
variable {p:Prog} {s:Ao} (h:Pa p s)
include h
theorem H1d{t E:Ty}(ht:G4 t s.types)(I:E.er=Ej t):E.count 0<=400:=by
 obtain⟨u,J,e⟩:=ht;rw[VL I,Vp e];have O:=CA u;have L:=h.fd.tl u J;rw[fG];have:u.mg.length / 50<=200:=by omega
 omega
theorem ej{vars vars':List Param}(L:∀f,f∈vars->G4 f.type s.types)(I:vars'.map (·.name)=vars.map (·.name))(E:vars'.map (λf=>f.type.er)=vars.map (λf=>Ej f.type)){e:Ex}{t:Ty}(h1:e.One)(V:∀y,y∈B3 e->U3 p vars y s)
  (ht:Dc ⟨p,false,[],vars⟩ e=(t,none)):∃O,Da ⟨Bm p s,false,[],vars'⟩ (Bt e)=(O,Gx)/\O.er=Ej t/\G4 t s.types:=by obtain⟨O,h2,h3⟩:=iX h L I E e t V ht;refine⟨O,Nl _ _ (λy U u hu=>?_) h2,h3,MT h L e t V ht⟩;rw[aM]at U;obtain⟨z,Z,rfl⟩:=Ap.1 U;obtain⟨_,K,W⟩:=AT h1 ht z Z;have J:∀y,y∈B3 z->U3 p vars y s:=λy U=>V y (H7k Z U);obtain⟨u',g1,g2⟩:=iX h L I E z K J W;rw[g1]at hu;cases hu;exact H1d h (MT h L z K J W) g2
theorem F9k:∃E,Da ⟨Bm p s,false,[],[]⟩ (Bt p.main)=(E,Gx):=by obtain⟨t,ht⟩:=h.Fe.main;obtain⟨E,I,_⟩:=ej h (vars:=[]) (vars':=[]) (by simp) rfl rfl (RL h.Fe.right).2 h.Bi.main ht;exact⟨E,I⟩
omit h in
theorem G2v{d:Decl}{x:Ty}{c:Be}{g:A4}(eg:g=d.sig.canon.subst d.vars x.args)(E:zN p d x c.targs)(L:HW p)(hd:d∈p.decls)(O:d.kind=3) :Q0 g c=d.sig.params.map (λq=>q.type.subst (Jv d) (Ia x c))/\T1 g c=d.sig.result.subst (Jv d) (Ia x c):=by
 obtain⟨_,_,_,W⟩:=nL L hd O;obtain⟨_,V,J⟩:=QF W;have I:Ad g.A1=Ad d.sig.canon.A1:=by subst eg;simp only[A4.subst,Ad,Dn];rfl
 unfold Q0 T1;rw[I];subst eg;refine⟨Kx λi=>?_,E.inst _ J⟩;simp only[A4.subst,A4.canon,J0,Df,Px];cases U:d.sig.params[i]? with
 |none=>rfl|some q =>simp only[Em,B8,Param.subst];exact E.inst _ (V q (Bs U))
theorem H3z{x:Ty}(hx:x∈s.types){d:Decl}(hd:d∈p.decls)(hk:d.kind=3){c:Be}{g:A4}(eg:g=d.sig.canon.subst d.vars x.args)(E:zN p d x c.targs)
  (n1:∀t,t∈Q0 g c->G4 t s.types)(n2:G4 (T1 g c) s.types) :
  (∀f,f∈Sp p d x c->G4 f.type s.types)/\((⟨d.recv,.mk x.mg [] 0,0⟩::F7 (D5 ⟨x,c.name,c.targs⟩ g).params d.sig.params:List Param).map (·.name)=(Sp p d x c).map (·.name)) /\
  ((⟨d.recv,.mk x.mg [] 0,0⟩::F7 (D5 ⟨x,c.name,c.targs⟩ g).params d.sig.params:List Param).map (λf=>f.type.er)=(Sp p d x c).map (λf=>Ej f.type)) /\
  G4 (d.sig.result.subst (Jv d) (Ia x c)) s.types/\(D5 ⟨x,c.name,c.targs⟩ g).result.er=Ej (d.sig.result.subst (Jv d) (Ia x c)):=by
 obtain⟨V,e2⟩:=G2v eg E h.Fe.head hd hk;have L:(D5 ⟨x,c.name,c.targs⟩ g).params=Ge (g.params.map (Param.subst (Ad g.A1) c.targs)):=rfl;have O:g.params.length=d.sig.params.length:=by have:=F8 List.length V;simpa [Q0]using this
 have U:(Ge (g.params.map (Param.subst (Ad g.A1) c.targs))).length=d.sig.params.length:=by rw[DH,B7,O]
 have W:(F7 (D5 ⟨x,c.name,c.targs⟩ g).params d.sig.params).map (·.type)=(Q0 g c).map Ej:=by rw[L,zh _ _ (Nat.le_of_eq U)];unfold Ge Q0;refine Kx λi=>?_;simp only[Px,Df,Option.map_map];cases g.params[i]? <;> rfl
 have J:Sp p d x c=⟨d.recv,(iD d).subst (Jv d) (Ia x c),0⟩::d.sig.params.map (Param.subst (Jv d) (Ia x c)):=rfl;have I:((iD d).subst (Jv d) (Ia x c)).er=x.er:=E.self;rw[<-e2];refine⟨λf hf=>?_,?_,?_,n2,rfl⟩;rw[J]at hf;rcases Ay.1 hf with rfl|hf;exact⟨x,hx,I⟩;obtain⟨q,hq,rfl⟩:=Ap.1 hf;exact n1 _ (by rw[V];exact Ap.2 ⟨q,hq,rfl⟩);rw[J,Cj,Cj,L,GR,U,Ca,Dn];rfl
 .rw[J,Cj,Cj];refine List.cons_eq_cons.2 ⟨?_,?_⟩;show(Ty.mk x.mg [] 0).er=Ej _;rw[SD I];unfold Ej;rw[Gv];rfl
  .have Z:(F7 (D5 ⟨x,c.name,c.targs⟩ g).params d.sig.params).map (λf=>f.type.er)=((F7 (D5 ⟨x,c.name,c.targs⟩ g).params d.sig.params).map (·.type)).map Ty.er:=by rw[Dn];rfl
   rw[Z,W,V,Dn,Dn,Dn];refine Hb λq _=>?_;show(Ej _).er=Ej _;unfold Ej;rw[Gv];rfl
theorem H3k{d:Decl}(hd:d∈(Bm p s).decls):Wy (Bm p s) false d=Gx:=by
 unfold Wy;split;rotate_left;rfl;rename_i hk;rcases Ay.1 hd with rfl|hd;cases hk;obtain⟨x,I,hd⟩:=P4.1 hd;rw[Yj (h.wf I)]at hd;rcases Ay.1 hd with rfl|hd;have:=(CI (p:=p) (s:=s) x).2;omega;obtain⟨m1,m2,m3,m4,m5⟩:=Wz h I hd;have U:Fq (Bm p s) d=[]:=by unfold Fq;rw[m1,hJ h I];rfl
 have a4:Hv (Bm p s) false d=⟨Bm p s,false,[],⟨d.recv,.mk x.mg [] 0,0⟩::d.sig.params⟩:=by unfold Hv iD;rw[U,m5,m1,m3];rfl
 rw[a4];unfold L6 at hd;split at hd;rotate_left;simp at hd;rename_i hi;rcases Bj.1 hd with hd|hd
 .obtain⟨c,hc,hm⟩:=Md.1 hd;obtain⟨O,g,e1,eg,e3,_,e5⟩:=X1 h I hi hc;rw[hm]at e5;cases e5;obtain⟨g',g1,g2,g3,g4,g5,g6,E,m0,a8,ec,Z⟩:=V8 h I hc;obtain⟨a2,a0,_,_⟩:=Vq e1;subst ec;have a7:g'=g:=by obtain⟨d2,_,_,_,_,he,J⟩:=UF hi g1;rw[g2]at J;simp only at e1;rw[e1]at J;cases J;rw[he,eg]
  subst a7;have L:=h.gd.calls E m0;obtain⟨b1,b2,b3,b4,b5,t,b6,b7⟩:=KS h.Fe (h.wf I) L Z e1;obtain⟨n1,n2,n3⟩:=h.Bi.call x I E m0 g' Z;have a5:=n3 O e1;have V:=GS ((RL h.Fe.right).1 O a2 a0) x E;obtain⟨v1,v2,v3,v4⟩:=H3z h I a2 a0 eg b4 n1 n2;obtain⟨t',k1,k2,k3⟩:=ej h (vars':=⟨O.recv,.mk x.mg [] 0,0⟩::F7 (D5 ⟨x,E.name,E.targs⟩ g').params O.sig.params) v1 v2 v3 V a5 b6;show P5 _ _ (Bt (M4 O x E)) (Da _ (Bt (M4 O x E)))=Gx;rw[k1];unfold P5;have a1:Cr (Bm p s) [] t' (D5 ⟨x,E.name,E.targs⟩ g').result=true:=o0 h k3 v4.1 b7 k2 v4.2;rw[A5 (by simp only[a1];simp)]
 .obtain⟨g,_,rfl⟩:=Ap.1 hd;have ht:Dc ⟨Bm p s,false,[],⟨(Io x.mg g).recv,.mk x.mg [] 0,0⟩::(Io x.mg g).sig.params⟩ (Io x.mg g).body=(Qc,none):=by
   have a6:Dm (Bm p s) Lb=[]:=by unfold Dm;rw[IJ];rfl
   have a3:kindOf (Bm p s) Lb=1:=by have:=IJ (p:=p) (s:=s);unfold Ec at this;unfold kindOf;rw[this];rfl
   have W:B9 (Bm p s) Qc 1=true:=by unfold B9;show(decide (kindOf (Bm p s) Lb=1) && decide ((Dm (Bm p s) Lb).length=([]:List Ty).length))=true;rw[a3,a6];rfl
   refine Jc.2 (.inr (.inl ⟨rfl,bY 0,Z2.2 ⟨W,dD _⟩,?_,rfl⟩));have hf:Bc (Bm p s) Qc=[]:=by unfold Bc;rw[A7 W];show fieldsD ((Ec (Bm p s) Lb).getD default) Qc=[];rw[IJ];rfl
   show Si _ ((Bc (Bm p s) Qc).map (·.type)) [];rw[hf];exact⟨rfl,by simp⟩
  have hE:=Nl _ _ (λy hy u hu=>?_) ht;rw[hE];unfold P5;have:Cr (Bm p s) [] Qc Qc=true:=LN _ _ _;rw[A5 (by show ¬(_/\Cr (Bm p s) [] Qc Qc=false);rw[this];simp)];rw[show B3 (Io x.mg g).body=[(Io x.mg g).body] from rfl,Pj]at hy;rw[hy,ht]at hu;cases hu;decide +kernel
theorem sj(L:(Bm p s).decls.length<=100000):Yd (Bm p s) false=Gx:=by
 have I:=F7q h L;have key:∀(l:List Decl) (i:Nat),l=(Bm p s).decls.drop i->Xb (Bm p s) false l i=Gx:=by
  intro l
  induction l with
  |nil =>intro i _;rw[Xb];obtain⟨t,ht⟩:=F9k h;show(Da ⟨Bm p s,false,[],[]⟩ (Bt p.main)).2=Gx;rw[ht]
  |cons d l J =>
   intro i e;have E:(Bm p s).decls[i]?=some d:=by have:=F8 (λz=>z[0]?) e;simpa using this.symm
   rw[Xb,I i d E];simp only;rw[H3k h (Bs E),A5 (by simp[Gx])];refine J (i+1) ?_;have:=F8 List.tail e;simpa using this
 exact key _ 0 rfl
end
end Go.iA
