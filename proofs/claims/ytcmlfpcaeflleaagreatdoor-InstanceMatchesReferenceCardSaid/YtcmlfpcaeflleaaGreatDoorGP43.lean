/- the types of the set that castingsref21.Find returns are well formed, its calls typed -/
import Derived.Test.YtcmlfpcaeflleaaGreatDoorGP28
import Derived.Test.YtcmlfpcaeflleaaGreatDoorGO13
set_option linter.all false
set_option maxHeartbeats 1000000
set_option maxRecDepth 100000
namespace Go.Abs
open Go
structure Typed(p:Prog):Prop where
 right:p.right=true
 head:HW p
 body:∀d,d∈p.decls->(A5h p true d).bad=false
 main:∃t,Bw (G9n p) p.main=(t,none)
theorem Typed.of{p:Prog}(hr:p.right=true)(hp:(A8o p true).bad=false):Typed p:=by
 have E:=λk d L=>E4m (l:=p.decls) (i:=0) hp k d L;refine⟨hr,λi d I=>by have:=(E i d I).1;rwa [Nd]at this,λd I=>?_,?_⟩
 .obtain⟨i,M⟩:=Hz I;exact(E i d M).2
 .have J:=D2n (l:=p.decls) (i:=0) hp;exact⟨_,lax ⟨p,true,[],[]⟩ p.main _ (B9z J)⟩
theorem D3m(t:Ty):Cm [] t=none:=by unfold Cm Ez;split <;> simp[Dq]
theorem C4q{p:Prog}{t:Ty}(h:Bt p [] t=none):kindOf p t.name≠0/\(Ey p t.name).length=t.args.length/\(∀u,u∈t.args->Bt p [] u=none)/\G4 p [] (Ey p t.name) t.args<0:=by
 rcases A9u.1 h with h|h
 .rw[D3m]at h;cases h
 .exact h
theorem G9a{p:Prog}{t:Ty}(h:Bt p [] t=none):Ch p t 1=true\/Ch p t 2=true:=by obtain⟨J,I,_⟩:=C4q h;obtain⟨d,E,L,_⟩:=A8n J;have:=(B1r E).1;unfold Ch;simp only[I,X0,Au8,Da];omega
section
variable {p:Prog}
theorem sbD(hr:p.right=true)(hw:HW p){x:Ty}(hx:Bt p [] x=none){d:Decl}(U:G2 p x.name=some d):Sb p d.A1 [] (Af d.A1) x.args/\∀u,u∈x.args->Bt p [] u=none:=by
 have hp:=B1k hr hw;obtain⟨h1,h2,Z,W⟩:=C4q hx;obtain⟨d',L,_,J⟩:=A8n h1;rw[U]at L;cases L;obtain⟨t1,t2⟩:=A4r (A1p hw U).1;rw[J]at h2 W;have E:∀n,n∈Af d.A1->kindOf p n=0/\¬Nr n:=λn O=>by
  obtain⟨f,M,rfl⟩:=B1.1 O;obtain⟨i,hi⟩:=Hz M;refine⟨(t1 i f hi).1,B0y ?_⟩;have I:d.right=true:=by unfold Prog.right at hr;simp only[Bc,Dr]at hr;exact hr.1 d (B1r U).2.2
  unfold Decl.right at I;simp only[Si,Bc,Dr]at I;exact(I.2.1 f M).1
 refine⟨⟨rfl,by simp[Af,h2],E,by simp[Af],λu V=>(A0r (Z u V)).mono λn O=>O.elim (by simp[Af]) (hp.name n),λf J=>by simpa using(t2 f J).2,λi f u J V=>Wn.1 W i f u J V⟩,Z⟩
theorem C4u(hr:p.right=true)(J:HW p){x:Ty}(V:Bt p [] x=none){f:Param}(E:f∈Bh p x):Bt p [] f.type=none:=by
 unfold Bh at E;split at E
 .rename_i U;obtain⟨d,I,M,_⟩:=Qa (by decide) U;rw[I,E1]at E;unfold fieldsD at E;obtain⟨y,O,rfl⟩:=B1.1 E;obtain⟨sb,L⟩:=sbD hr J V I;exact Zz (B1k hr J) sb L ((A1p J I).2.1 M y O)
 .simp at E
theorem G4v(hr:p.right=true)(hw:HW p){x:Ty}(hx:Bt p [] x=none){I:Decl}(O:G2 p x.name=some I)(hk:I.kind=2){E:A5}(a6:E∈I.sigs){targs:List Ty}(a8:E.A1.length=targs.length)
  (ht:∀t,t∈targs->Bt p [] t=none)(hb:G4 p [] (E.canon.subst (Af I.A1) x.args).A1 targs<0) :
  Sb p (I.A1++E.A1) [] (Af I.A1++Af E.A1) (x.args++targs)/\(∀u,u∈x.args++targs->Bt p [] u=none) /\
  ∀b:Ty,Bt p (I.A1++E.A1) b=none->((b.subst (Af E.A1) (Dg E.A1.length)).subst (Af I.A1) x.args).subst (Af E.canon.A1) targs=b.subst (Af I.A1++Af E.A1) (x.args++targs):=by
 have hp:=B1k hr hw;obtain⟨sb,af⟩:=sbD hr hw hx O;obtain⟨s1,s2,s3⟩:=A6e ((A1p hw O).2.2 hk E a6);obtain⟨f1,f2⟩:=A4r s1;have M:(Af I.A1).length=x.args.length:=sb.len.symm;have a':∀u,u∈x.args++targs->Bt p [] u=none:=λu Z=>(D2.1 Z).elim (af u) (ht u);have a5:∀u,u∈x.args++targs->u.Lf λn=>¬Nr n:=λu Z=>(A0r (a' u Z)).mono λn W=>W.elim (by simp[Af]) (hp.name n);have a4:(Af E.A1).length=E.A1.length:=by simp[Af]
 have a7:∀m,m∈Af I.A1->m∉Af E.A1:=λm hm hf=>by obtain⟨f,a0,ah⟩:=B1.1 hf;obtain⟨i,hi⟩:=Hz a0;exact(f1 i f hi).2.1 (by rw[ah];exact hm)
 have a1:Af E.canon.A1=(List.range E.A1.length).map G0:=by rw[(B8n E).fs];simp[A5.canon,Hp]
 have V:∀b:Ty,Bt p (I.A1++E.A1) b=none->((b.subst (Af E.A1) (Dg E.A1.length)).subst (Af I.A1) x.args).subst (Af E.canon.A1) targs=b.subst (Af I.A1++Af E.A1) (x.args++targs):=λb hb =>
  D3c (K:=λn=>kindOf p n≠0) a4 a8.symm M a1 a7 (λm hm=>(sb.fresh m hm).2) hp.name (λu Z=>a5 u (At5 _ Z)) b
   ((A0r hb).mono λn W=>by
    unfold Af at W;rw[Gg,D2]at W;rcases W with(h|h)|h
    .exact .inr (.inl h)
    .exact .inl h
    .exact .inr (.inr h))
 have ad:∀f,f∈E.A1->isName f.name=true:=λf hf=>by
  have a3:I.right=true:=by unfold Prog.right at hr;simp only[Bc,Dr]at hr;exact hr.1 I (B1r O).2.2
  unfold Decl.right at a3;simp only[Bc,Dr]at a3;have:=a3.2.2.2.1 E a6;simp only[A5.right,Si,Bc,Dr]at this;exact(this.1.1.2 f hf).1
 have J:∀n,n∈Af I.A1++Af E.A1->kindOf p n=0/\¬Nr n:=λn W=>by
  rcases D2.1 W with h|h
  .exact sb.fresh n h
  .obtain⟨f,a0,rfl⟩:=B1.1 h;obtain⟨i,hi⟩:=Hz a0;exact⟨(f1 i f hi).1,B0y (ad f a0)⟩
 have L:Af (I.A1++E.A1)=Af I.A1++Af E.A1:=by unfold Af;rw[Gg]
 obtain⟨t1,t2⟩:=A4r (A1p hw O).1;have a2:∀n,n∈Af (I.A1++E.A1)->kindOf p n=0:=λn W=>(J n (by rw[<-L];exact W)).1;refine⟨⟨L.symm,by rw[Bz,Bz,a4,M,a8],J,by simp[Af],a5,λf hf=>?_,λi f u hf Z=>?_⟩,a',V⟩
 .rcases D2.1 hf with hf|hf
  .have U:=(t2 f hf).2;simp only[Vt]at U;unfold isIface at U |-;rw[Bc]at U |-;refine⟨U.1,?_⟩;rw[B6q a2 (by rw[(Xy U.1).1];decide)];rfl
  .exact(f2 f hf).2
 .by_cases ag:i<I.A1.length
  .rw[Ls (by omega)]at hf;rw[Ls (by rw[<-M];simpa [Af]using ag)]at Z;have ai:=sb.bnd i f u hf Z;refine A0o ai (Yp ?_);rw[F2g M ((hp.bnd _ I O f (Br hf)).mono λn W=>W.imp_right λh hm=>h (by obtain⟨g,hg,rfl⟩:=B1.1 hm;obtain⟨j,hj⟩:=Hz hg;exact(f1 j g hj).1))]
  .rw[M5 (by omega)]at hf;have aa:x.args.length=I.A1.length:=by rw[<-M];simp[Af]
   rw[M5 (by omega),aa]at Z;have ab:=Br hf;have ae:(E.canon.subst (Af I.A1) x.args).A1[i - I.A1.length]?=some ⟨G0 (i - I.A1.length),(f.bound.subst (Af E.A1) (Dg E.A1.length)).subst (Af I.A1) x.args,f.pos⟩:=by have a9:=(B5.1 hf).1;simp only[A5.subst,A5.canon,Hp];rw[Db,Wu,hf];simp only[Eu,Am.subst,A9 a9]
   have:=Wn.1 hb _ _ u ae Z;simp only at this;have ac:Af (E.canon.subst (Af I.A1) x.args).A1=Af E.canon.A1:=by simp only[A5.subst,Af,Fo];rfl
   rw[ac,V _ (f2 f ab).1]at this;exact this
theorem C8h(hr:p.right=true)(hw:HW p){x:Ty}(hx:Bt p [] x=none){g:A5}(U:g∈Dk p [] x){targs:List Ty}(L:g.A1.length=targs.length)(ht:∀t,t∈targs->Bt p [] t=none)(hb:G4 p [] g.A1 targs<0) :
  Bt p [] (g.result.subst (Af g.A1) targs)=none/\∀q,q∈g.params->Bt p [] (q.type.subst (Af g.A1) targs)=none:=by
 have hp:=B1k hr hw;rcases G9a hx with hi|hi
 .obtain⟨d,d1,d2,d3,d4,rfl,d6⟩:=E5o hi U;have I:d.sig.A1.length=targs.length:=by rw[<-L];simp[A5.subst,A5.canon,Hp]
  have E:=called hr hw d1 d2 hx hi d3 I ht hb;obtain⟨_,_,_,m4⟩:=C0h hw d1 d2;obtain⟨_,c2,W⟩:=A6e m4;have J:Af (d.sig.canon.subst d.vars x.args).A1=Af d.sig.canon.A1:=by simp only[A5.subst,Af,Fo];rfl
  rw[J];refine⟨?_,λq V=>?_⟩
  .show Bt p [] (((d.sig.result.subst (Af d.sig.A1) (Dg d.sig.A1.length)).subst d.vars x.args).subst (Af d.sig.canon.A1) targs)=none;rw[E.inst _ W];exact Zz hp E.sb E.wf W
  .simp only[A5.subst,A5.canon,Kg,B1]at V;obtain⟨q1,M,rfl⟩:=V;obtain⟨i,f,hf,_,rfl⟩:=mem_mapIdx M;have Z:=c2 f (Br hf);show Bt p [] (((f.type.subst (Af d.sig.A1) (Dg d.sig.A1.length)).subst d.vars x.args).subst (Af d.sig.canon.A1) targs)=none;rw[E.inst _ Z];exact Zz hp E.sb E.wf Z
 .have a0:isIface p [] x=true:=by unfold isIface;rw[hi,D3m];rfl
  rw[C3c a0]at U;unfold H8 at U;rw[A9 hi]at U;obtain⟨d,hd,hk,_⟩:=Qa (by decide) hi;rw[hd,E1]at U;unfold Xx Io at U;obtain⟨⟨y,i⟩,hy,rfl⟩:=B1.1 U;have O:=Hh (Uv (Kc.1 hy).1);simp only at O L hb |-;have I:y.A1.length=targs.length:=by rw[<-L];simp[A5.subst,A5.canon,Hp]
  obtain⟨sb,wf,inst⟩:=G4v hr hw hx hd hk O I ht hb;obtain⟨_,c2,W⟩:=A6e ((A1p hw hd).2.2 hk y O);have J:Af (y.canon.subst (Af d.A1) x.args).A1=Af y.canon.A1:=by simp only[A5.subst,Af,Fo];rfl
  rw[J];refine⟨?_,λq V=>?_⟩
  .show Bt p [] (((y.result.subst (Af y.A1) (Dg y.A1.length)).subst (Af d.A1) x.args).subst (Af y.canon.A1) targs)=none;rw[inst _ W];exact Zz hp sb wf W
  .simp only[A5.subst,A5.canon,Kg,B1]at V;obtain⟨q1,M,rfl⟩:=V;obtain⟨j,f,hf,_,rfl⟩:=mem_mapIdx M;have Z:=c2 f (Br hf);show Bt p [] (((f.type.subst (Af y.A1) (Dg y.A1.length)).subst (Af d.A1) x.args).subst (Af y.canon.A1) targs)=none;rw[inst _ Z];exact Zz hp sb wf Z
theorem C4e(hr:p.right=true)(L:HW p){st:Bool}{vars:List Param}(hv:∀f,f∈vars->Bt p [] f.type=none):∀(e:Ex)(t:Ty),Bw ⟨p,st,[],vars⟩ e=(t,none)->Bt p [] t=none:=by
 intro e
 induction e using Ex.induct with|_ e Z=>?_
 intro t h;rcases N5.1 h with⟨_,k,f,_,I,rfl⟩|⟨_,J,_,_,rfl⟩|⟨v,vs,x,U,hx,h⟩
 .exact hv f (Br I)
 .exact J
 .have E:=Z v (by rw[U];simp) x hx;rcases h with⟨_,s,hs,_,rfl⟩|⟨_,_,k,f,_,I,rfl⟩|⟨_,J,_,rfl⟩
  .obtain⟨M,_,V,W,O,_⟩:=A7k.1 hs;exact(C8h hr L E M V W O).1
  .exact C4u hr L E (Br I)
  .exact J
theorem E0z{c:C3}{e:Ex}{t:Ty}(L:e.One)(ht:Bw c e=(t,none)):∀x,x∈e.kids->∃K,Bw c x=(K,none):=by
 have key:∀(M:List Ty) (es:List Ex),Xv c M es->∀x,x∈es->∃K,Bw c x=(K,none):=λM es I x J=>by
  obtain⟨i,U⟩:=Hz J;have O:i<M.length:=by rw[I.1];exact(B5.1 U).1
  obtain⟨K,V,_⟩:=I.2 i _ x (B8 O) U;exact⟨K,V⟩
 rcases N5.1 ht with⟨k1,_⟩|⟨_,_,_,I,_⟩|⟨v,vs,x,E,J,W⟩
 .intro x J;rw[L.out.1.1 k1]at J;simp at J
 .exact key _ _ I
 .intro y hy;rw[E]at hy;rcases Aw.1 hy with rfl|hy
  .exact⟨x,J⟩
  .rcases W with⟨_,s,_,I,_⟩|⟨k4,_⟩|⟨Z,_⟩
   .exact key _ _ I y hy
   .have:=L.out.1.2 (.inl k4);rw[E]at this;have:vs=[]:=by simpa using this
    rw[this]at hy;simp at hy
   .have:=L.out.1.2 (.inr Z);rw[E]at this;have:vs=[]:=by simpa using this
    rw[this]at hy;simp at hy
theorem B1e{c:C3}{e:Ex}{t:Ty}(J:e.One)(ht:Bw c e=(t,none)):∀y,y∈Bg e->y.One/\∃K,Bw c y=(K,none) :=
 A8s (Q:=λy=>y.One/\∃K,Bw c y=(K,none)) (λe h x E=>⟨h.1.out.2 x E,by obtain⟨K,I⟩:=h.2;exact E0z h.1 I x E⟩) e ⟨J,t,ht⟩
theorem F8f{vars:List Param}(v:List A3)(a:List Ty)(E:A3):G7 (vars.map (Param.subst v a)) E=G7 vars E:=by unfold G7 Dq;rw[List.findIdx?_map];rfl
theorem G7u{env env':List Am}{v:List A3}{a:List Ty}(hp:PW p)(sb:Sb p env env' v a)(L:∀u,u∈a->Bt p env' u=none){st:Bool}{vars:List Param} :
  ∀(e:Ex) (t:Ty),Bw ⟨p,st,env,vars⟩ e=(t,none)->∃J,Bw ⟨p,false,env',vars.map (Param.subst v a)⟩ (e.subst v a)=(J,none)/\Dd p env' J (t.subst v a)=true:=by
 intro e
 induction e using Ex.induct with|_ e M=>?_
 intro t h;by_cases k1:e.kind=1
 .rcases N5.1 h with⟨_,k,f,I,E,rfl⟩|⟨h3,_⟩|⟨_,_,_,_,_,h3|h3|h3⟩
  .refine⟨f.type.subst v a,N5.2 (.inl ⟨by rw[Qq];exact k1,k,Param.subst v a f,?_,?_,rfl⟩),C5j _ _ _⟩
   .show G7 (vars.map (Param.subst v a)) (e.subst v a).name=k;rw[F8f,Qq];exact I
   .show(vars.map (Param.subst v a))[k]?=_;have E:vars[k]?=some f:=E;rw[Db,E];rfl
  all_goals omega
 .refine G2h hp sb L (vars:=vars) (e:=e) (by rw[Qq];rfl) (by rw[Qq];rfl) (by rw[Qq];rfl) (by rw[Qq];rfl) (by rw[Qq];simp[Ex.kids]) k1 h ?_;intro i k O K I E h3;rw[Qq]at E;have E:(e.kids.map (Ex.subst v a))[i]?=some O:=E;rw[Db,I]at E;simp only[Eu,B4]at E;subst E;exact M k (Br I) K h3
structure Tw(p:Prog)(c:Ad):Prop where
 on:Bt p [] c.on=none
 targs:∀t,t∈c.targs->Bt p [] t=none
 sig:∃g,g∈Dk p [] c.on/\g.name=c.name/\g.A1.length=c.targs.length/\G4 p [] g.A1 c.targs<0
structure Aj.Gd(p:Prog)(s:Aj):Prop where
 types:∀t,t∈s.types->Bt p [] t=none
 calls:∀c,c∈s.calls->Tw p c
theorem Aj.Gd.lg{s:Aj}(h:s.Gd p)(b:Bool):Aj.Gd p { s with Cv:=b }:=⟨h.types,h.calls⟩
theorem B3t{s:Aj}(hs:s.Gd p){x:Ty}(E:Bt p [] x=none):(Dz s x).Gd p:=by
 unfold Dz;split
 .exact⟨hs.types,hs.calls⟩
 .refine⟨λt ht=>?_,hs.calls⟩;rcases(Zh (cmp:=Cs) (x:=x) s.types).2 t ht with rfl|h
  .exact E
  .exact hs.types t h
theorem F3s{s:Aj}(hs:s.Gd p){x:Ad}(E:Tw p x):(Fh s x).Gd p:=by
 unfold Fh;split
 .exact⟨hs.types,hs.calls⟩
 .refine⟨hs.types,λt ht=>?_⟩;rcases(Zh (cmp:=Ba) (x:=x) s.calls).2 t ht with rfl|h
  .exact E
  .exact hs.calls t h
theorem D3f(hr:p.right=true)(hw:HW p){vars:List Param}(Z:∀f,f∈vars->Bt p [] f.type=none){y v:Ex}{vs:List Ex}{t x:Ty}(ht:Bw ⟨p,false,[],vars⟩ y=(t,none))(h2:y.kind=2)(O:y.kids=v::vs)(J:Bw ⟨p,false,[],vars⟩ v=(x,none)):Tw p ⟨x,y.name,y.targs⟩:=by
 rcases N5.1 ht with⟨h,_⟩|⟨h,_⟩|⟨v',a0,x',I,E,h⟩
 .omega
 .omega
 rw[O]at I;cases I;rw[J]at E;cases E;rcases h with⟨_,s,hs,_⟩|⟨h,_⟩|⟨h,_⟩
 .obtain⟨L,W,V,U,M,_⟩:=A7k.1 hs;exact⟨C4e hr hw Z v x J,U,s,L,W,V,M⟩
 all_goals omega
theorem E6y(hr:p.right=true)(M:HW p){vars:List Param}(J:∀f,f∈vars->Bt p [] f.type=none){e:Ex}{t:Ty}(O:e.One)(ht:Bw ⟨p,false,[],vars⟩ e=(t,none)){s:Aj}(hs:s.Gd p):(Md p s e vars).Gd p:=by
 refine foldI _ (λs y W hs=>?_) hs;obtain⟨_,K,I⟩:=B1e O ht y W;unfold Jh;split
 .rename_i Z;refine B3t hs ?_;rcases N5.1 I with⟨h,_⟩|⟨_,E,_⟩|⟨v,vs,x,_,_,h|h|⟨_,E,_⟩⟩
  .omega
  .exact E
  .omega
  .omega
  .exact E
 split
 .rename_i k2;split
  .exact hs
  .rename_i v vs V;unfold P8;split
   .exact⟨hs.types,hs.calls⟩
   .rename_i U;have L:=B9z (c:=⟨p,false,[],vars⟩) (e:=v) (by simpa using U);exact F3s (B3t (hs.lg _) (C4e hr M J v _ L)) (D3f hr M J I k2 V L)
 .exact hs
theorem D8i{g M:A5}(h:g.er=M.er){a:List Ty}(W:G4 p [] M.A1 a<0):G4 p [] g.A1 a<0:=by
 obtain⟨_,O,_⟩:=B3o h;have V:Af g.A1=Af M.A1:=by rw[<-A1g g.A1,O,A1g]
 refine Wn.2 λi f u J hu=>?_;obtain⟨U,I,Z⟩:=Vx O J;have E:=Wn.1 W i U u I hu;refine A0o E (Yp ?_);have L:U.bound.er=f.bound.er:=by have:=Gk Am.bound Z;simpa [Am.er]using this
 rw[Hi,Hi,V,L]
theorem C6v{x:Ty}{c:Ad}(hc:Tw p c){g:A5}(h:Km p x c=some g):g∈Dk p [] x/\g.name=c.name/\g.A1.length=c.targs.length/\Dd p [] x c.on=true/\G4 p [] g.A1 c.targs<0:=by
 unfold Km at h;split at h
 .cases h
 rename_i I;split at h
 .cases h
 rename_i g' E;split at h
 .rename_i L;cases h;have O:=Zq.1 (Br E);have M:g.name=c.name:=by
   unfold Gj at E I;rcases M9 (λs:A5=>decide (s.name=c.name)) (D8 p [] x)with⟨J,_⟩|⟨j,y,J,h2,V⟩
   .rw[J]at I;exact absurd (by decide) I
   .rw[J,Hs,h2]at E;cases E;simpa using V
  refine⟨O,M,L.1,L.2,?_⟩;obtain⟨g0,Z,n0,_,b0⟩:=hc.sig;obtain⟨U,W,es⟩:=C2s L.2 g0 Z;have:U=g:=B3e (C1i p [] x) W O (by rw[M,<-n0];have:=Gk A5.name es;simpa [A5.er]using this)
  subst this;exact D8i es b0
 .cases h
theorem C1g(L:Typed p){x:Ty}(hx:Bt p [] x=none){c:Ad}(hc:Tw p c){g:A5}(h:Km p x c=some g){d:Decl}(Z:Kq p x c.name=some d) :
  d∈p.decls/\d.kind=3/\g=d.sig.canon.subst d.vars x.args/\E3z p d x c.targs/\(∀f,f∈Ue p d x c->Bt p [] f.type=none) /\
  ∃t,Bw ⟨p,false,[],Ue p d x c⟩ (Nw d x c)=(t,none)/\Dd p [] t (d.sig.result.subst (Ii d) (J9 x c))=true:=by
 have hp:=B1k L.right L.head;obtain⟨g1,g2,g3,g4,g5⟩:=C6v hc h;obtain⟨J,U,V,_⟩:=G2z Z;obtain⟨d',_,_,d3,_,he,O⟩:=E5o V g1;rw[g2,Z]at O;cases O;subst he;have W:d.sig.A1.length=c.targs.length:=by rw[<-g3];simp[A5.subst,A5.canon,Hp]
 have E:=called L.right L.head J U hx V d3 W hc.targs g5;obtain⟨_,_,_,m4⟩:=C0h L.head J U;obtain⟨_,c2,c3⟩:=A6e m4;have I:=L.body d J;unfold A5h at I;rw[A9 U]at I;unfold V4 at I;have M:(Di (H3 p true d) d.body).2.bad=false/\Dd p (Ga p d++d.sig.A1) (Di (H3 p true d) d.body).1 d.sig.result=true:=by
  split at I
  .cases I
  .rename_i hh;refine⟨I,?_⟩;cases V:Dd p (Ga p d++d.sig.A1) (Di (H3 p true d) d.body).1 d.sig.result with
   |true=>rfl
   |false=>exact absurd ⟨I,V⟩ hh
 obtain⟨t',k1,k2⟩:=G7u hp E.sb E.wf (st:=true) (vars:=(H3 p true d).vars) d.body _ (B9z M.1);refine⟨J,U,rfl,E,λf hf=>?_,t',k1,A0o k2 (B7j hp E.sb M.2)⟩;obtain⟨q,hq,rfl⟩:=B1.1 hf;rcases Aw.1 hq with rfl|hq
 .exact B1w E.self.symm hx
 .exact Zz hp E.sb E.wf (c2 q hq)
theorem C2q{d:Decl}(h:d.body.One)(x:Ty)(c:Ad):(Nw d x c).One:=Ex.One.subst _ _ h
theorem H0b(E:Typed p){x:Ty}(L:Bt p [] x=none){s:Aj}(hs:s.Gd p){c:Ad}(J:Tw p c):(Ju p x s c).Gd p:=by
 unfold Ju;split
 .exact hs
 .rename_i g h;obtain⟨g1,g2,Z,g4,g5⟩:=C6v J h;obtain⟨w1,w2⟩:=C8h E.right E.head L g1 Z J.targs g5;have M:(Dz (Jg s (Ks g c)) (Lg g c)).Gd p:=B3t (foldI _ (λs t ht h=>by
   obtain⟨q,V,rfl⟩:=B1.1 ht;exact B3t h (w2 q V)) hs) w1
  unfold No;rcases C6t p x c.name with⟨I,_⟩|⟨j,d,I,O,U⟩
  .rw[A9 I];exact M
  .rw[I,A6 (by omega),Hs,O];simp only;obtain⟨b1,b2,_,_,W,t,b4,_⟩:=C1g E L J h U;exact E6y E.right E.head W (C2q ((A6q E.right).1 d b1 b2) x c) b4 M
theorem F1y(I:Typed p){s:Aj}(hs:s.Gd p):(Kw p s).Gd p:=by
 refine foldI _ (λo x J E=>foldI _ (λo c M E=>H0b I (hs.types x J) E (hs.calls c M)) ?_) hs;split
 .refine foldI _ (λs t ht h=>?_) E;obtain⟨f,L,rfl⟩:=B1.1 ht;exact B3t h (C4u I.right I.head (hs.types x J) L)
 .exact E
theorem E1n(I:Typed p):∀(k:Nat) {s:Aj} (n:Int),s.Gd p->(Gm p k s n).1.Gd p
 |0,_,_,_=>⟨by simp[Gm],by simp[Gm]⟩
 |k+1,s,n,h=>by
  have E:Aj.Gd p Q9:=⟨by simp,by simp⟩;rw[Gm];split
  .split
   .exact E
   .exact h
  .split
   .exact E
   .exact E1n I k _ (F1y I h)
theorem C7o(E:Typed p):(Cp p).1.Gd p:=by obtain⟨t,ht⟩:=E.main;exact E1n E _ _ (E6y E.right E.head (by simp) (A6q E.right).2 ht ⟨by simp,by simp⟩)
end
end Go.Abs
/- texts of types are different: what a text was made of can be read from it -/
namespace Go.Abs
open Go
def cut(c:UInt8):Prop:=c=91\/c=44\/c=93
instance (c:UInt8):Decidable (cut c):=by unfold cut;exact inferInstance
mutual
def Ty.Ct:Ty->Prop
 |.mk n a _=>(∀c,c∈n->¬cut c)/\Ty.CtL a
def Ty.CtL:List Ty->Prop
 |[]=>True
 |t::ts=>t.Ct/\Ty.CtL ts
end
theorem Ty.E6a:∀{l:List Ty},Ty.CtL l↔∀t,t∈l->t.Ct
 |[]=>by simp[Ty.CtL]
 |t::ts=>by rw[Ty.CtL,Ty.E6a];simp
theorem Ty.A3w(t:Ty):t.Ct↔(∀c,c∈t.name->¬cut c)/\∀u,u∈t.args->u.Ct:=by cases t with|mk n a p=>rw[Ty.Ct,Ty.E6a];rfl
theorem E5r{c:UInt8}(h:X1 c=true):¬cut c:=by rintro(rfl|rfl|rfl) <;> revert h <;> decide
theorem F1p(i:Nat):∀c,c∈Lib.decDigits i->¬cut c:=by
 induction i using Nat.strongRecOn with|_ u E=>?_
 intro c hc;rw[Lib.decDigits]at hc;have key:∀k,k<10->¬cut (UInt8.ofNat (48+k)):=λk I=>by
  match k,I with
  |0,_|1,_|2,_|3,_|4,_|5,_|6,_|7,_|8,_|9,_=>decide
 split at hc
 .rename_i h;rw[Ps.1 hc];exact key u h
 .rename_i h;rcases D2.1 hc with hc|hc
  .exact E (u / 10) (by omega) c hc
  .rw[Ps.1 hc];exact key (u % 10) (Zk _ (by decide))
theorem Ty.Mg.ct{t:Ty}(h:t.Mg):t.Ct:=by
 induction h with
 |loc i p _ =>
  rw[Ty.A3w];refine⟨λc hc=>?_,by simp[Ty.args]⟩;simp only[Ty.name,G0,Aw]at hc;rcases hc with rfl|hc
  .decide
  .have:Lib.itoa (i:Nat)=Lib.decDigits i:=by simp[Lib.itoa]
   rw[this]at hc;exact F1p i c hc
 |Ys n a p E _ _ _ I =>
  rw[Ty.A3w];refine⟨λc hc=>E5r ?_,I⟩;unfold isName at E;cases n with
  |nil=>simp[Ty.name]at hc
  |cons b r =>simp only[Bc,Dr]at E;exact E.1.2 c hc
def C0n(s:A3):Prop:=∀c r,s=c::r->cut c
theorem B4k:∀{n m r s:A3},(∀c,c∈n->¬cut c)->(∀c,c∈m->¬cut c)->C0n r->C0n s->n++r=m++s->n=m/\r=s
 |[],[],_,_,_,_,_,_,h=>⟨rfl,h⟩
 |[],b::m,r,s,_,I,hr,_,h=>absurd (hr b (m++s) h) (I b (by simp))
 |a::n,[],r,s,E,_,_,hs,h=>absurd (hs a (n++r) h.symm) (E a (by simp))
 |a::n,b::m,r,s,E,I,hr,hs,h=>by simp only[Qp,Sj]at h;obtain⟨M,L⟩:=B4k (λc J=>E c (by simp[J])) (λc J=>I c (by simp[J])) hr hs h.2;exact⟨by rw[h.1,M],L⟩
def Beh(s:A3):Prop:=∀c r,s=c::r->c=44\/c=93
theorem Beh.B7r{s:A3}(h:Beh s):C0n s:=λc r e=>(h c r e).elim (λh=>.inr (.inl h)) λh=>.inr (.inr h)
theorem B9h(l:List A3)(r:A3):Beh (Lib.joinTail comma l++93::r):=λc q e=>by
 cases l with
 |nil=>simp[Lib.joinTail]at e;exact .inr e.1.symm
 |cons x l=>simp[Lib.joinTail]at e;exact .inl e.1.symm
theorem E4r:∀{a b:List Ty} {r s:A3},(∀t:Ty,t∈a->∀u:Ty,u.Ct->∀r s:A3,Beh r->Beh s->t.Av++r=u.Av++s->t.er=u.er/\r=s)->(∀u,u∈b->u.Ct) ->
  Lib.joinTail comma (a.map Ty.Av)++93::r=Lib.joinTail comma (b.map Ty.Av)++93::s->a.map Ty.er=b.map Ty.er/\r=s
 |[],[],r,s,_,_,h=>by simpa [Lib.joinTail]using h
 |[],y::b,r,s,_,_,h=>by simp[Lib.joinTail]at h
 |x::a,[],r,s,_,_,h=>by simp[Lib.joinTail]at h
 |x::a,y::b,r,s,I,E,h=>by
  have e:∀(z:Ty) (l:List Ty) (q:A3),Lib.joinTail comma ((z::l).map Ty.Av)++93::q=44::32::(z.Av++(Lib.joinTail comma (l.map Ty.Av)++93::q)):=λz l q=>by simp[Lib.joinTail]
  rw[e,e]at h;simp only[Sj,Qi]at h;obtain⟨O,L⟩:=I x (by simp) y (E y (by simp)) _ _ (B9h _ _) (B9h _ _) h;obtain⟨J,U⟩:=E4r (λt ht=>I t (by simp[ht])) (λu M=>E u (by simp[M])) L;exact⟨by simp[O,J],U⟩
theorem F6n:∀(t:Ty),t.Ct->∀u:Ty,u.Ct->∀r s:A3,Beh r->Beh s->t.Av++r=u.Av++s->t.er=u.er/\r=s:=by
 intro t
 induction t using Ty.induct with|_ t Z=>?_
 intro ht u hu r s hr hs h;obtain⟨O,h2⟩:=t.A3w.1 ht;obtain⟨U,h4⟩:=u.A3w.1 hu;rw[Ty.A6x,Ty.A6x]at h;have I:∀q:A3,C0n (91::q):=λq c r' e=>by simp at e;exact .inl e.1.symm
 have ee:∀{a b:Ty},a.name=b.name->a.args.map Ty.er=b.args.map Ty.er->a.er=b.er:=λ{a b} J E=>by
  cases a with|mk n l q=>cases b with|mk m k q' =>
  rw[Ty.er,Ty.er,B5h,B5h];simp only[Ty.name,Ty.args]at J E;rw[J,E]
 cases M:t.args with
 |nil =>
  rw[M,A9 rfl]at h;cases L:u.args with
  |nil =>rw[L,A9 rfl]at h;obtain⟨J,E⟩:=B4k O U hr.B7r hs.B7r h;exact⟨ee J (by rw[M,L]),E⟩
  |cons y b =>rw[L,A6 (by simp),N6,N6,N6]at h;obtain⟨J,E⟩:=B4k O U hr.B7r (I _) h;rcases hr _ _ E with h|h <;> exact absurd h (by decide)
 |cons x a =>
  rw[M,A6 (by simp),N6,N6,N6]at h;cases L:u.args with
  |nil =>rw[L,A9 rfl]at h;obtain⟨J,E⟩:=B4k O U (I _) hs.B7r h;rcases hs _ _ E.symm with h|h <;> exact absurd h (by decide)
  |cons y b =>rw[L,A6 (by simp),N6,N6,N6]at h;obtain⟨J,E⟩:=B4k O U (I _) (I _) h;simp only[Qp,Vt,Sj,Qi,Ck,Lib.join_cons,N6]at E;rw[M]at Z h2;rw[L]at h4;obtain⟨e3,e4⟩:=Z x (by simp) (h2 x (by simp)) y (h4 y (by simp)) _ _ (B9h _ _) (B9h _ _) E;obtain⟨e5,e6⟩:=E4r (λz hz w hw r' s' V W h'=>Z z (by simp[hz]) (h2 z (by simp[hz])) w hw r' s' V W h') (λw hw=>h4 w (by simp[hw])) e4;exact⟨ee J (by rw[M,L];simp[e3,e5]),e6⟩
theorem C0j{t u:Ty}(ht:t.Ct)(E:u.Ct)(h:t.Av=u.Av):t.er=u.er :=
 (F6n t ht u E [] [] (λ_ _ e=>by cases e) (λ_ _ e=>by cases e) (by rw[I8,I8];exact h)).1
theorem C5x{t u:Ty}(h:t.er=u.er):t.Av=u.Av:=by
 have key:∀t:Ty,t.er.Av=t.Av:=λt=>by
  induction t using Ty.induct with|_ t J=>?_
  rw[Ty.A6x t.er,Ty.A6x t];have M:t.er.name=t.name:=by cases t;rfl
  have I:t.er.args=t.args.map Ty.er:=by cases t with|mk n a p=>rw[Ty.er,B5h];rfl
  rw[M,I];have E:(t.args.map Ty.er).map Ty.Av=t.args.map Ty.Av:=by rw[Fo];exact J7 λu L=>J u L
  rw[E];simp
 rw[<-key t,<-key u,h]
def Ad.Ct(c:Ad):Prop:=(∀b,b∈c.name->¬cut b)/\c.on.Ct/\∀t,t∈c.targs->t.Ct
theorem Ad.Ct.ty{c:Ad}(h:c.Ct):(Ty.mk c.name (c.on::c.targs) 0).Ct:=by
 rw[Ty.A3w];refine⟨h.1,λu hu=>?_⟩;rcases Aw.1 hu with rfl|hu
 .exact h.2.1
 .exact h.2.2 u hu
end Go.Abs
/- what a type or a call needs does not depend on places -/
namespace Go.Abs
open Go
theorem C0k{a b:Ad}(I:a.on.er=b.on.er)(E:a.name=b.name)(J:a.targs.map Ty.er=b.targs.map Ty.er):Ba a b=0:=by unfold Ba;rw[A9 ((Wd _ _).2 I),A9 (Tm.2 E)];exact(Wd _ _).2 (by rw[G9,G9,J2,J2,F4,F4,J])
theorem D6i{c d:Ad}(I:c.Ct)(E:d.Ct)(h:c.Av=d.Av):Ba c d=0:=by have:=C0j I.ty E.ty h;rw[G9,G9,J2,J2,F4,F4]at this;simp only[Ty.mk.injEq,Ck,Sj]at this;exact C0k this.2.1.1 this.1 this.2.1.2
theorem E5t{c d:Ad}(h:Ba c d=0):c.Av=d.Av:=by obtain⟨I,E,J⟩:=A0m h;exact C5x (by rw[G9,G9,J2,J2,F4,F4,E,Ck,Ck,I,J])
theorem D5.er{t u:Ty}{l:List Ty}(h:t.er=u.er)(k:D5 t l):D5 u l:=by obtain⟨w,E,e⟩:=k;exact⟨w,E,h.symm.trans e⟩
theorem Hv.er{c d:Ad}{l:List Ad}(h:Ba c d=0)(k:Hv c l):Hv d l:=by obtain⟨w,E,e⟩:=k;exact⟨w,E,A7t (Wg h) e⟩
mutual
theorem C7p(v:List A3)(a:List Ty):∀e:Ex,Bg (e.subst v a)=(Bg e).map (Ex.subst v a)
 |.mk k n t l ks q=>by rw[Qq,Bg,Bg,Ck,Qq v a (.mk k n t l ks q)];have:(Ex.mk k n t l ks q).kids=ks:=rfl;rw[this,E3m v a ks]
theorem E3m(v:List A3)(a:List Ty):∀l:List Ex,D4 (l.map (Ex.subst v a))=(D4 l).map (Ex.subst v a)
 |[]=>rfl
 |e::l=>by rw[Ck,D4,D4,Gg,C7p v a e,E3m v a l]
end
theorem C4o{l m:List Param}(h:l.map (·.name)=m.map (·.name))(E:A3):G7 l E=G7 m E:=by
 have key:∀l:List Param,l.findIdx? (λf=>decide (f.name=E))=(l.map (·.name)).findIdx? (λs=>decide (s=E)):=λl=>by rw[List.findIdx?_map];rfl
 unfold G7 Dq;rw[key,key,h]
def VE(V1 V2:List Param):Prop:=V1.map (λf=>(f.name,f.type.er))=V2.map (λf=>(f.name,f.type.er))
theorem VE.names{V1 V2:List Param}(h:VE V1 V2):V1.map (·.name)=V2.map (·.name):=by have:=Gk (List.map Prod.fst) h;rw[Fo,Fo]at this;exact this
theorem E0f{l:List Ty}{v:List A3}{a b:List Ty}(E:a.map Ty.er=b.map Ty.er):(l.map (Ty.subst v a)).map Ty.er=(l.map (Ty.subst v b)).map Ty.er:=by rw[Fo,Fo];exact J7 λt _=>by simp only[Function.comp];rw[Hi,Hi,E]
theorem ek(v:List A3)(a:List Ty)(e:Ex):(e.subst v a).kind=e.kind:=by rw[Qq];rfl
theorem en(v:List A3)(a:List Ty)(e:Ex):(e.subst v a).name=e.name:=by rw[Qq];rfl
theorem et(v:List A3)(a:List Ty)(e:Ex):(e.subst v a).type=e.type.subst v a:=by rw[Qq];rfl
theorem eg(v:List A3)(a:List Ty)(e:Ex):(e.subst v a).targs=e.targs.map (Ty.subst v a):=by rw[Qq];rfl
theorem es(v:List A3)(a:List Ty)(e:Ex):(e.subst v a).kids=e.kids.map (Ex.subst v a):=by rw[Qq];simp[Ex.kids]
theorem C3q{l m:List Am}(h:l.map Am.er=m.map Am.er):Af l=Af m:=by rw[<-A1g l,h,A1g]
theorem G0v{p:Prog}{st:Bool}{V1 V2:List Param}(hV:VE V1 V2){v:List A3}{a b:List Ty}(V:a.map Ty.er=b.map Ty.er) :
  ∀(e:Ex) (t t':Ty),Bw ⟨p,st,[],V1⟩ (e.subst v a)=(t,none)->Bw ⟨p,st,[],V2⟩ (e.subst v b)=(t',none)->t.er=t'.er:=by
 intro e
 induction e using Ex.induct with|_ e ih=>?_
 intro t t' h L;rcases N5.1 h with⟨k1,k,f,M,h2,rfl⟩|⟨k1,_,_,_,rfl⟩|⟨w,ws,x,W,hx,h⟩
 .rw[ek]at k1;rcases N5.1 L with⟨_,k',f',O,I,rfl⟩|⟨k2,_⟩|⟨_,_,_,_,_,k2|k2|k2⟩
  .rw[en]at M O;simp only at M h2 O I;rw[C4o hV.names]at M;have:k=k':=by omega
   subst this;obtain⟨y,hy,e⟩:=Vx hV h2;rw[I]at hy;cases hy;simp only[Eo]at e;exact e.2.symm
  .rw[ek]at k2;omega
  all_goals (have:=k2.1;rw[ek]at this;omega)
 .rw[ek]at k1;rcases N5.1 L with⟨k2,_⟩|⟨_,_,_,_,rfl⟩|⟨_,_,_,_,_,k2|k2|k2⟩
  .rw[ek]at k2;omega
  .rw[et,et,Hi,Hi,V]
  all_goals (have:=k2.1;rw[ek]at this;omega)
 .rcases N5.1 L with⟨k2,_⟩|⟨k2,_⟩|⟨w',a3,x',E,a2,L⟩
  .rw[ek]at k2;rcases h with h|h|h <;> (have:=h.1;rw[ek]at this;omega)
  .rw[ek]at k2;rcases h with h|h|h <;> (have:=h.1;rw[ek]at this;omega)
  .rw[es]at W E;cases J:e.kids with
   |nil=>rw[J]at W;cases W
   |cons q qs =>
    rw[J]at W E;simp only[Ck,Sj]at W E;obtain⟨rfl,rfl⟩:=W;obtain⟨rfl,rfl⟩:=E;have a0:=ih q (by rw[J];simp) x x' hx a2;rcases h with⟨k1,s,hs,_,rfl⟩|⟨k1,_,k,f,M,h2,rfl⟩|⟨k1,_,_,rfl⟩
    .rcases L with⟨_,s',a1,_,rfl⟩|⟨k2,_⟩|⟨k2,_⟩
     .obtain⟨s1,s2,_⟩:=A7k.1 hs;obtain⟨O,I,_⟩:=A7k.1 a1;obtain⟨s3,m3,e3⟩:=C3f a0 s1;have U:=B3o e3;rw[en]at s2 I;have:s3=s':=B3e (C1i p [] x') m3 O (by rw[U.1,s2,I]);subst this;rw[Hi,Hi,U.2.2.2,C3q U.2.1,eg,eg,E0f V]
     .rw[ek]at k1 k2;omega
     .rw[ek]at k1 k2;omega
    .rcases L with⟨k2,_⟩|⟨_,_,k',f',O,I,rfl⟩|⟨k2,_⟩
     .rw[ek]at k1 k2;omega
     .have Z:=D0e (p:=p) a0;have hn:(Bh p x).map (·.name)=(Bh p x').map (·.name):=by
       have:=Gk (List.map Param.name) Z;simpa [Fo,Param.er,Function.comp_def]using this
      rw[en]at M O;simp only at M h2 O I;rw[C4o hn]at M;have:k=k':=by omega
      subst this;obtain⟨y,hy,e⟩:=Vx Z h2;rw[I]at hy;cases hy;have:=Gk Param.type e;simpa [Param.er]using this.symm
     .rw[ek]at k1 k2;omega
    .rcases L with⟨k2,_⟩|⟨k2,_⟩|⟨_,_,_,rfl⟩
     .rw[ek]at k1 k2;omega
     .rw[ek]at k1 k2;omega
     .rw[et,et,Hi,Hi,V]
def Lt(p:Prog)(vars:List Param)(y:Ex)(ts:List Ty)(cs:List Ad):Prop :=
 (y.kind=3\/y.kind=5->D5 y.type ts)/\∀v vs,y.kind=2->y.kids=v::vs->∀K,Bw ⟨p,false,[],vars⟩ v=(K,none)->D5 K ts/\Hv ⟨K,y.name,y.targs⟩ cs
theorem Zy.toT{p:Prog}{vars:List Param}{y:Ex}{r:Aj}(h:Zy p vars y r):Lt p vars y r.types r.calls :=
 ⟨h.1,λv vs O U K V=>by
  obtain⟨M,J⟩:=h.2 v vs O U;have I:=D4c ⟨p,false,[],vars⟩ v;unfold A9z at I;rw[V]at I;rcases I with⟨E,_⟩|⟨_,⟨_,E⟩|⟨E,_,L⟩⟩
  .rw[M]at E;cases E
  .cases E
  .have:=Gk Prod.fst L;simp only at this;rw[this];exact J E⟩
theorem Lt.sub{p:Prog}{V1 V2:List Param}(U:VE V1 V2){v:List A3}{a b:List Ty}(I:a.map Ty.er=b.map Ty.er){y:Ex}{ts:List Ty}{cs:List Ad}(h:Lt p V1 (y.subst v a) ts cs)(V:∀q,q∈(y.subst v a).kids->∃K,Bw ⟨p,false,[],V1⟩ q=(K,none)) :
  Lt p V2 (y.subst v b) ts cs:=by
 refine⟨λk=>?_,λw ws k2 J K Z=>?_⟩
 .rw[ek]at k;have:=h.1 (by rw[ek];exact k);refine this.er ?_;rw[et,et,Hi,Hi,I]
 .rw[ek]at k2;rw[es]at J;cases E:y.kids with
  |nil=>rw[E]at J;cases J
  |cons q qs =>rw[E]at J;simp only[Ck,Sj]at J;obtain⟨rfl,rfl⟩:=J;obtain⟨L,u1⟩:=V (q.subst v a) (by rw[es,E];simp);obtain⟨W,O⟩:=h.2 (q.subst v a) (qs.map (Ex.subst v a)) (by rw[ek];exact k2) (by rw[es,E];rfl) L u1;have M:=G0v U I q L K u1 Z;exact⟨W.er M,O.er (C0k M (by rw[en,en]) (by rw[eg,eg];exact E0f I))⟩
theorem F7n{p:Prog}{x y:Ty}(h:x.er=y.er)(m:A3):Kq p x m=Kq p y m:=by
 have I:x.name=y.name:=by rw[<-A3t x,h,A3t]
 have E:x.args.length=y.args.length:=by have:=Gk (λt=>t.args.length) h;rw[G9,G9]at this;simpa [F4]using this
 unfold Kq;rw[A8d h,I,E]
theorem D0s{p:Prog}{x:Ty}{c:Ad}{g:A5}:Km p x c=some g↔g∈Dk p [] x/\g.name=c.name/\g.A1.length=c.targs.length/\Dd p [] x c.on=true:=by
 unfold Km Gj;rcases M9 (λs:A5=>decide (s.name=c.name)) (D8 p [] x)with⟨J,E⟩|⟨j,y,J,E,L⟩
 .rw[J,A9 (by decide)];refine⟨λh=>(by cases h),λ⟨M,I,_⟩=>?_⟩;have:=E g (Zq.2 M);simp[I]at this
 .rw[J,A6 (by omega),Hs,E];simp only;have O:=Zq.1 (Br E);simp only[Da]at L;constructor
  .intro h;split at h
   .rename_i U;cases h;exact⟨O,L,U.1,U.2⟩
   .cases h
  .rintro⟨M,I,V,W⟩;have:y=g:=B3e (C1i p [] x) O M (by rw[L,I]);subst this;rw[A9 ⟨V,W⟩]
def Sa(p:Prog)(x:Ty)(c:Ad)(ts:List Ty)(cs:List Ad):Prop:=∀g,Km p x c=some g->(∀t,t∈Ks g c->D5 t ts)/\D5 (Lg g c) ts/\∀d,Kq p x c.name=some d->∀y,y∈Bg (Nw d x c)->Lt p (Ue p d x c) y ts cs
theorem B6i.toC{p:Prog}{x:Ty}{c:Ad}{r:Aj}(h:B6i p x c r):Sa p x c r.types r.calls:=λg E =>⟨(h g E).1,(h g E).2.1,λd J y I=>((h g E).2.2 d J y I).toT⟩
theorem Sa.er{p:Prog}(hg:Typed p){x L:Ty}{c O:Ad}(M:x.er=L.er)(hc:Ba c O=0)(a0:Bt p [] x=none)(a5:Tw p c){ts:List Ty}{cs:List Ad}(h:Sa p x c ts cs):Sa p L O ts cs:=by
 obtain⟨c1,c2,U⟩:=A0m hc;intro g' a7;obtain⟨a1,a2,a3,a4⟩:=D0s.1 a7;obtain⟨g,m,e⟩:=C3f M.symm a1;have hl:c.targs.length=O.targs.length:=by have:=Gk List.length U;simpa using this
 obtain⟨e1,e2,e3,e4⟩:=B3o e;have a9:g.A1.length=g'.A1.length:=by have:=Gk List.length e2;simpa using this
 have hs:Km p x c=some g:=D0s.2 ⟨m,by rw[e1,a2,c2],by omega,B8m M.symm c1.symm a4⟩;obtain⟨n1,n2,n3⟩:=h g hs;have J:(J9 x c).map Ty.er=(J9 L O).map Ty.er:=by
  have a8:x.args.map Ty.er=L.args.map Ty.er:=by
   have:=Gk Ty.args M
   rwa [G9,G9,F4,F4]at this
  unfold J9;rw[Gg,Gg,a8,U]
 refine⟨λt ht=>?_,?_,λd V y hy=>?_⟩
 .obtain⟨q',W,rfl⟩:=B1.1 ht;obtain⟨i,hi⟩:=Hz W;obtain⟨q,Z,eq⟩:=Vx e3.symm hi;have a6:q.type.er=q'.type.er:=by
   have:=Gk Param.type eq;simpa [Param.er]using this
  refine(n1 _ (B1.2 ⟨q,Br Z,rfl⟩)).er ?_;rw[Hi,Hi,a6,C3q e2,U]
 .refine n2.er ?_;unfold Lg;rw[Hi,Hi,e4,C3q e2,U]
 .rw[<-F7n M,<-c2]at V;obtain⟨b1,b2,_,_,b3,t,b4,_⟩:=C1g hg a0 a5 hs V;unfold Nw at hy b4;rw[C7p]at hy;obtain⟨z,hz,rfl⟩:=B1.1 hy;have E:z.subst (Ii d) (J9 x c)∈Bg (d.body.subst (Ii d) (J9 x c)):=by rw[C7p];exact B1.2 ⟨z,hz,rfl⟩
  have I:=C2q ((A6q hg.right).1 d b1 b2) x c;obtain⟨o1,K,hK⟩:=B1e I b4 _ E;refine(n3 d V _ E).sub (V1:=Ue p d x c) ?_ J (λq Z=>E0z o1 hK q Z);unfold VE Ue;rw[Fo,Fo];refine J7 λf _=>?_;simp only[Function.comp,Param.subst,Eo,Qi];rw[Hi,Hi,J]
end Go.Abs
/- what a finder adds, and that it stays in the set of the reference -/
namespace Go.Abs
open Go
theorem C1r{t u:Ty}(h:t.er=u.er)(k:t.Ct):u.Ct:=by
 have key:∀t:Ty,t.er.Ct↔t.Ct:=λt=>by
  induction t using Ty.induct with|_ t I=>?_
  rw[Ty.A3w t.er,Ty.A3w t,A3t];have L:t.er.args=t.args.map Ty.er:=by rw[G9];rfl
  rw[L];constructor
  .rintro⟨a,b⟩;exact⟨a,λu E=>(I u E).1 (b _ (List.mem_map_of_mem E))⟩
  .rintro⟨a,b⟩;refine⟨a,λu E=>?_⟩;obtain⟨w,J,rfl⟩:=B1.1 E;exact(I w J).2 (b w J)
 exact(key u).1 (h ▸ (key t).2 k)
theorem G8c{c d:Ad}(h:Ba c d=0)(k:c.Ct):d.Ct:=by obtain⟨E,J,I⟩:=A0m h;refine⟨J ▸ k.1,C1r E k.2.1,λt ht=>?_⟩;obtain⟨i,L⟩:=Hz ht;obtain⟨u,M,e⟩:=Vx I.symm L;exact C1r e (k.2.2 u (Br M))
theorem D4f(c:Ad):c.Av≠[]:=by unfold Ad.Av;rw[Ty.A6x,F4,A6 (by simp)];simp
section
variable {α:Type} {f:α->A3}
theorem B3m(x:α):∀l:List α,x∈Co f l x
 |[]=>by simp[Co]
 |u::l=>by
  simp only[Co];split
  .simp
  .exact Wf _ (B3m x l)
theorem C8r{x y:α}:∀{l:List α},y∈l->y∈Co f l x\/f y=f x
 |[],h=>by simp at h
 |u::l,h=>by
  simp only[Co];rcases Aw.1 h with rfl|h
  .split
   .rename_i e;exact .inr e.symm
   .exact .inl (by simp)
  .split
   .exact .inl (by simp[h])
   .exact(C8r h).imp (λh=>by simp[h]) id
theorem E3j(x:α):∀l:List α,(Co f l x).map f=if f x∈l.map f then l.map f else l.map f++[f x]
 |[]=>by simp[Co]
 |u::l=>by
  simp only[Co];by_cases h:f x=f u
  .rw[A9 h,A9 (by simp[h])];simp[h]
  .rw[A6 h,Ck,E3j x l];by_cases E:f x∈l.map f
   .rw[A9 E,A9 (by rw[Ck];exact Wf _ E)];rfl
   .rw[A6 E,A6 (by rw[Ck];intro h3;rcases Aw.1 h3 with h3|h3 <;> contradiction)];rfl
theorem E5n{x:α}{l:List α}(h:(l.map f).Nodup):((Co f l x).map f).Nodup:=by
 rw[E3j];split
 .exact h
 .rename_i E;rw[Ap9];refine⟨h,by simp,λa I b J=>?_⟩;rw[Ps.1 J];rintro rfl;exact E I
end
structure RCt(r:Aj):Prop where
 ts:∀t,t∈r.types->t.Ct
 cs:∀c,c∈r.calls->c.Ct
theorem RCt.t{r:Aj}(h:RCt r){t:Ty}(k:D5 t r.types):t.Ct:=by obtain⟨u,E,e⟩:=k;exact C1r e.symm (h.ts u E)
theorem RCt.c{r:Aj}(h:RCt r){c:Ad}(k:Hv c r.calls):c.Ct:=by obtain⟨u,E,e⟩:=k;exact G8c (Wg e) (h.cs u E)
structure QS(r:Aj)(ts:List Ty)(cs:List Ad):Prop where
 it:∀t,t∈ts->D5 t r.types
 ic:∀c,c∈cs->Hv c r.calls
 tn:(ts.map Ty.Av).Nodup
 cn:(cs.map Ad.Av).Nodup
 on:∀c,c∈cs->D5 c.on ts
structure Gr(ts:List Ty)(cs:List Ad)(ts':List Ty)(cs':List Ad):Prop where
 t:∀t,D5 t ts->D5 t ts'
 c:∀c,Hv c cs->Hv c cs'
theorem Gr.B6g{ts:List Ty}{cs:List Ad}:Gr ts cs ts cs:=⟨λ_ h=>h,λ_ h=>h⟩
theorem Gr.trans{a c e:List Ty}{b d f:List Ad}(h:Gr a b c d)(k:Gr c d e f):Gr a b e f:=⟨λt ht=>k.t t (h.t t ht),λt ht=>k.c t (h.c t ht)⟩
theorem Lt.gr{p:Prog}{vars:List Param}{y:Ex}{a c:List Ty}{b d:List Ad}(h:Gr a b c d)(k:Lt p vars y a b):Lt p vars y c d :=
 ⟨λL=>h.t _ (k.1 L),λv vs E I K J=>⟨h.t _ (k.2 v vs E I K J).1,h.c _ (k.2 v vs E I K J).2⟩⟩
theorem Sa.gr{p:Prog}{x:Ty}{e:Ad}{a c:List Ty}{b d:List Ad}(h:Gr a b c d)(k:Sa p x e a b):Sa p x e c d:=λg E =>⟨λt ht=>h.t t ((k g E).1 t ht),h.t _ (k g E).2.1,λq J y I=>((k g E).2.2 q J y I).gr h⟩
section
variable {p:Prog} {r:Aj} (hr:RCt r)
include hr
theorem QS.upT{ts:List Ty}{cs:List Ad}(h:QS r ts cs){x:Ty}(J:D5 x r.types):QS r (Co Ty.Av ts x) cs/\Gr ts cs (Co Ty.Av ts x) cs/\D5 x (Co Ty.Av ts x):=by have E:Gr ts cs (Co Ty.Av ts x) cs:=⟨λt ⟨u,I,e⟩=>(C8r (x:=x) I).elim (λh=>⟨u,h,e⟩) λL=>⟨x,B3m x ts,e.trans (C0j (hr.t (h.it u I)) (hr.t J) L)⟩,λ_ h=>h⟩;exact⟨⟨λt ht=>(A1e ht).elim (λe=>e ▸ J) (h.it t),h.ic,E5n h.tn,h.cn,λc M=>E.t _ (h.on c M)⟩,E,⟨x,B3m x ts,rfl⟩⟩
theorem QS.upC{ts:List Ty}{cs:List Ad}(h:QS r ts cs){x:Ad}(I:Hv x r.calls)(M:D5 x.on ts):QS r ts (Co Ad.Av cs x)/\Gr ts cs ts (Co Ad.Av cs x)/\Hv x (Co Ad.Av cs x) :=
 ⟨⟨h.it,λt ht=>(A1e ht).elim (λe=>e ▸ I) (h.ic t),h.tn,E5n h.cn,λc L=>(A1e L).elim (λe=>e ▸ M) (h.on c)⟩,⟨λ_ h=>h,λt ⟨u,E,e⟩=>(C8r (x:=x) E).elim (λh=>⟨u,h,e⟩) λJ=>⟨x,B3m x cs,A7t e (D6i (hr.c (h.ic u E)) (hr.c I) J)⟩⟩,⟨x,B3m x cs,A0k x⟩⟩
theorem QS.ups{cs:List Ad}:∀(l:List Ty) {ts:List Ty},QS r ts cs->(∀t,t∈l->D5 t r.types)->QS r (l.foldl (Co Ty.Av) ts) cs/\Gr ts cs (l.foldl (Co Ty.Av) ts) cs/\∀t,t∈l->D5 t (l.foldl (Co Ty.Av) ts)
 |[],ts,h,_=>⟨h,Gr.B6g,by simp⟩
 |x::l,ts,h,E=>by
  obtain⟨U,M,J⟩:=h.upT hr (E x (by simp));obtain⟨O,I,L⟩:=QS.ups l U λt ht=>E t (by simp[ht]);refine⟨O,M.trans I,λt ht=>?_⟩;rcases Aw.1 ht with rfl|ht
  .exact I.t _ J
  .exact L t ht
def L0(p:Prog)(vars:List Param)(y:Ex):Option Ty:=match y.kids with
 |v::_=>match(Bw ⟨p,false,[],vars⟩ v).2 with
  |none=>some (Bw ⟨p,false,[],vars⟩ v).1
  |some _=>none
 |[]=>none
omit hr in
theorem G0j{vars:List Param}{y:Ex}{K:Ty}(h:L0 p vars y=some K):∃v vs,y.kids=v::vs/\Bw ⟨p,false,[],vars⟩ v=(K,none):=by
 unfold L0 at h;split at h
 .rename_i v vs I;split at h
  .rename_i E;cases h;exact⟨v,vs,I,by rw[<-E]⟩
  .cases h
 .cases h
omit hr in
theorem D6w{vars:List Param}{y v:Ex}{vs:List Ex}{K:Ty}(E:y.kids=v::vs)(h:Bw ⟨p,false,[],vars⟩ v=(K,none)):L0 p vars y=some K:=by unfold L0;rw[E];simp only[h]
theorem QS.Jh{vars:List Param}{s:List Ty × List Ad}(h:QS r s.1 s.2){y:Ex}(V:Lt p vars y r.types r.calls) :
  QS r (Qj (L0 p vars) s y).1 (Qj (L0 p vars) s y).2/\Gr s.1 s.2 (Qj (L0 p vars) s y).1 (Qj (L0 p vars) s y).2/\Lt p vars y (Qj (L0 p vars) s y).1 (Qj (L0 p vars) s y).2:=by
 unfold Qj;by_cases k:y.kind=3\/y.kind=5
 .rw[A9 k];obtain⟨U,O,M⟩:=h.upT hr (V.1 k);exact⟨U,O,λ_=>M,λ_ _ k2=>by omega⟩
 rw[A6 k];by_cases k2:y.kind=2
 .rw[A9 k2];cases ht:L0 p vars y with
  |none =>refine⟨h,Gr.B6g,λE=>absurd E k,λv vs _ hv K L=>?_⟩;rw[D6w hv L]at ht;cases ht
  |some K =>obtain⟨v,vs,E,L⟩:=G0j ht;obtain⟨Z,n2⟩:=V.2 v vs k2 E K L;obtain⟨U,O,M⟩:=h.upT hr Z;obtain⟨b1,W,b3⟩:=U.upC hr n2 M;refine⟨b1,O.trans W,λE=>absurd E k,λv' a0 _ J K' I=>?_⟩;rw[E]at J;cases J;rw[L]at I;cases I;exact⟨W.t _ M,b3⟩
 .rw[A6 k2];exact⟨h,Gr.B6g,λE=>absurd E k,λ_ _ k3=>absurd k3 k2⟩
theorem QS.Wy{vars:List Param}:∀(l:List Ex) {s:List Ty × List Ad},QS r s.1 s.2->(∀y,y∈l->Lt p vars y r.types r.calls) ->
  QS r (Lh (L0 p vars) s l).1 (Lh (L0 p vars) s l).2/\Gr s.1 s.2 (Lh (L0 p vars) s l).1 (Lh (L0 p vars) s l).2/\∀y,y∈l->Lt p vars y (Lh (L0 p vars) s l).1 (Lh (L0 p vars) s l).2
 |[],s,h,_=>⟨h,Gr.B6g,by simp⟩
 |x::l,s,h,E=>by
  obtain⟨U,M,J⟩:=h.Jh hr (E x (by simp));obtain⟨O,I,L⟩:=QS.Wy l U λt ht=>E t (by simp[ht]);refine⟨O,M.trans I,λt ht=>?_⟩;rcases Aw.1 ht with rfl|ht
  .exact J.gr I
  .exact L t ht
end
end Go.Abs
/- the finder's set is the reference's: parts, and the whole when all is done -/
namespace Go.Abs
open Go
def Hj(s:Aj)(ts:List Ty)(cs:List Ad):Prop:=(∀t,t∈s.types->D5 t ts)/\∀c,c∈s.calls->Hv c cs
section
variable {p:Prog} {ts:List Ty} {cs:List Ad}
theorem Hj.Dz{s:Aj}(h:Hj s ts cs){x:Ty}(E:D5 x ts):Hj (Dz s x) ts cs:=by
 unfold Go.Abs.Dz;split
 .exact h
 .refine⟨λt ht=>?_,h.2⟩;rcases(Zh (cmp:=Cs) (x:=x) s.types).2 t ht with rfl|h'
  .exact E
  .exact h.1 t h'
theorem Hj.Fh{s:Aj}(h:Hj s ts cs){x:Ad}(E:Hv x cs):Hj (Fh s x) ts cs:=by
 unfold Go.Abs.Fh;split
 .exact h
 .refine⟨h.1,λt ht=>?_⟩;rcases(Zh (cmp:=Ba) (x:=x) s.calls).2 t ht with rfl|h'
  .exact E
  .exact h.2 t h'
theorem Hj.Wy{s:Aj}(h:Hj s ts cs){e:Ex}{vars:List Param}(I:∀y,y∈Bg e->Lt p vars y ts cs):Hj (Md p s e vars) ts cs:=by
 refine foldI (Q:=λs=>Hj s ts cs) _ (λs y M hs=>?_) h;obtain⟨E,O⟩:=I y M;unfold Go.Abs.Jh;split
 .rename_i k;exact hs.Dz (E k)
 split
 .rename_i k2;split
  .exact hs
  .rename_i v vs L;unfold P8;split
   .exact hs
   .rename_i J;have W:=B9z (c:=⟨p,false,[],vars⟩) (e:=v) (by simpa using J);obtain⟨U,V⟩:=O v vs k2 L _ W;exact Hj.Fh (Hj.Dz (s:={ s with Cv:=s.Cv ||(Di ⟨p,false,[],vars⟩ v).2.Cv }) ⟨hs.1,hs.2⟩ U) V
 .exact hs
theorem Hj.call{s:Aj}(h:Hj s ts cs){x:Ty}{c:Ad}(L:Sa p x c ts cs):Hj (Ju p x s c) ts cs:=by
 unfold Ju;split
 .exact h
 .rename_i g V;obtain⟨J,W,U⟩:=L g V;have I:Hj (Go.Abs.Dz (Jg s (Ks g c)) (Lg g c)) ts cs:=Hj.Dz (foldI (Q:=λs=>Hj s ts cs) _ (λs t ht hs=>hs.Dz (J t ht)) h) W;unfold No;rcases C6t p x c.name with⟨E,_⟩|⟨j,d,E,M,O⟩
  .rw[A9 E];exact I
  .rw[E,A6 (by omega),Hs,M];exact I.Wy (U d O)
structure ClT(p:Prog)(ts:List Ty)(cs:List Ad):Prop where
 main:∀y,y∈Bg p.main->Lt p [] y ts cs
 fields:∀x,D5 x ts->∀f,f∈Bh p x->D5 f.type ts
 call:∀x,D5 x ts->∀c,Hv c cs->Sa p x c ts cs
theorem Hj.round(J:ClT p ts cs){s:Aj}(h:Hj s ts cs):Hj (Kw p s) ts cs:=by
 refine foldI (Q:=λs=>Hj s ts cs) _ (λo x L E=>foldI (Q:=λs=>Hj s ts cs) _ (λo c I E=>E.call (J.call x (h.1 x L) c (h.2 c I))) ?_) h;split
 .refine foldI (Q:=λs=>Hj s ts cs) _ (λs t ht hs=>?_) E;obtain⟨f,M,rfl⟩:=B1.1 ht;exact hs.Dz (J.fields x (h.1 x L) f M)
 .exact E
theorem Hj.B5d(I:ClT p ts cs):∀(k:Nat) {s:Aj} (n:Int),Hj s ts cs->Hj (Gm p k s n).1 ts cs
 |0,_,_,_=>⟨by simp[Gm],by simp[Gm]⟩
 |k+1,s,n,h=>by
  have E:Hj Q9 ts cs:=⟨by simp,by simp⟩;rw[Gm];split
  .split
   .exact E
   .exact h
  .split
   .exact E
   .exact Hj.B5d I k _ (h.round I)
theorem ClT.sub(E:ClT p ts cs):Hj (Cp p).1 ts cs:=Hj.B5d E _ _ (Hj.Wy (s:=Q9) ⟨by simp,by simp⟩ E.main)
end
theorem D3x{p:Prog}{c d:Ad}(h:Ba c d=0)(k:Tw p c):Tw p d:=by
 obtain⟨J,Z,E⟩:=A0m h;obtain⟨g,W,M,g3,g4⟩:=k.sig;obtain⟨L,m,e⟩:=C3f J W;obtain⟨e1,e2,_⟩:=B3o e;have hl:c.targs.length=d.targs.length:=by have:=Gk List.length E;simpa using this
 have a0:L.A1.length=g.A1.length:=by have:=Gk List.length e2;simpa using this
 refine⟨B1w J k.on,λt ht=>?_,L,m,by rw[e1,M,Z],by omega,?_⟩
 .obtain⟨i,hi⟩:=Hz ht;obtain⟨u,I,e⟩:=Vx E.symm hi;exact B1w e (k.targs u (Br I))
 .have O:=D8i e g4;refine Wn.2 λi f u V I=>?_;obtain⟨w,hw,U⟩:=Vx E.symm I;exact B8m U (by rw[Hi,Hi,E]) (Wn.1 O i f w V hw)
structure Vp(p:Prog)(r:Aj):Prop where
 ty:Typed p
 gd:r.Gd p
 ct:RCt r
 main:∀y,y∈Bg p.main->Lt p [] y r.types r.calls
 G4j:∀x,x∈r.types->∀f,f∈Bh p x->D5 f.type r.types
 call:∀x,x∈r.types->∀c,c∈r.calls->Sa p x c r.types r.calls
theorem C3k{p:Prog}{x y:Ty}(e:x.er=y.er){l:List Ty}(E:∀f,f∈Bh p y->D5 f.type l):∀f,f∈Bh p x->D5 f.type l:=λf L=>by obtain⟨i,J⟩:=Hz L;obtain⟨g,I,eg⟩:=Vx (D0e (p:=p) e) J;refine(E g (Br I)).er ?_;have:=Gk Param.type eg;simpa [Param.er]using this
theorem F6j{p:Prog}{x:Ty}(E:¬Ch p x 1=true):Bh p x=[]:=by unfold Bh;rw[A6 E]
section
variable {p:Prog} {r:Aj} (h:Vp p r)
include h
theorem Vp.C4d{x:Ty}(I:D5 x r.types):Bt p [] x=none:=by obtain⟨u,E,e⟩:=I;exact B1w e.symm (h.gd.types u E)
theorem Vp.C6u{c:Ad}(I:Hv c r.calls):Tw p c:=by obtain⟨u,E,e⟩:=I;exact D3x (Wg e) (h.gd.calls u E)
theorem Vp.fields{x:Ty}(I:D5 x r.types):∀f,f∈Bh p x->D5 f.type r.types:=by obtain⟨u,E,e⟩:=I;exact C3k e (h.G4j u E)
theorem Vp.P8{x:Ty}(M:D5 x r.types){c:Ad}(L:Hv c r.calls):Sa p x c r.types r.calls:=by obtain⟨u,I,e⟩:=M;obtain⟨d,E,J⟩:=L;exact(h.call u I d E).er h.ty e.symm (Wg J) (h.gd.types u I) (h.gd.calls d E)
end
theorem Vp.of{p:Prog}{r:Aj}(ty:Typed p)(gd:r.Gd p)(ct:RCt r)(B0:Clo p r):Vp p r :=
 ⟨ty,gd,ct,λy J=>(B0.main y J).toT,λx E=>by
  by_cases I:Ch p x 1=true
  .exact B0.fields x E I
  .rw[F6j I];simp,λx E c L=>(B0.call x E c L).toC⟩
theorem C7q{p:Prog}{st:Bool}{env:List Am}{V1 V2:List Param}:∀(I:List Ty)(es:List Ex)(E:List TO),Ko ⟨p,st,env,V1⟩ I es E=Ko ⟨p,st,env,V2⟩ I es E
 |[],es,E=>by cases es <;> cases E <;> rfl
 |w::I,[],E=>by cases E <;> rfl
 |w::I,e::es,[]=>rfl
 |w::I,e::es,z::E=>by rw[Ko,Ko,C7q I es E];rfl
theorem D4z{p:Prog}{st:Bool}{env:List Am}{V1 V2:List Param}(I:V1.map (λf=>(f.name,f.type))=V2.map (λf=>(f.name,f.type))):∀e:Ex,Bw ⟨p,st,env,V1⟩ e=Bw ⟨p,st,env,V2⟩ e:=by
 intro e
 induction e using Ex.induct with|_ e V=>?_
 rw[A9d,A9d,J7 V];have E:V1.map (·.name)=V2.map (·.name):=by have:=Gk (List.map Prod.fst) I;rw[Fo,Fo]at this;exact this
 unfold P4;split
 .unfold Wv;simp only[C4o E];have O:∀i:Nat,(V1[i]?).map (·.type)=(V2[i]?).map (·.type):=λi=>by
   have:=Gk (λl=>(l[i]?).map Prod.snd) I;simpa [Db,Function.comp_def]using this
  have:=O (G7 V2 e.name).toNat;cases J:V1[(G7 V2 e.name).toNat]? <;> cases L:V2[(G7 V2 e.name).toNat]? <;> rw[J,L]at this <;> simp_all
 .have W:∀Z,X5 ⟨p,st,env,V1⟩ e Z=X5 ⟨p,st,env,V2⟩ e Z:=λZ=>by unfold X5;rw[C7q (V2:=V2)];rfl
  have U:∀x Z,W6 ⟨p,st,env,V1⟩ e x Z=W6 ⟨p,st,env,V2⟩ e x Z:=λx Z=>by unfold W6;simp only[C7q (V1:=V1) (V2:=V2)];rfl
  have M:∀x,Xb ⟨p,st,env,V1⟩ e x=Xb ⟨p,st,env,V2⟩ e x:=λx=>rfl;have e4:∀x,Wb ⟨p,st,env,V1⟩ e x=Wb ⟨p,st,env,V2⟩ e x:=λx=>rfl;simp only[W,U,M,e4]
theorem Lt.vars{p:Prog}{V1 V2:List Param}(E:V1.map (λf=>(f.name,f.type))=V2.map (λf=>(f.name,f.type))){y:Ex}{ts:List Ty}{cs:List Ad}(h:Lt p V1 y ts cs):Lt p V2 y ts cs :=
 ⟨h.1,λv vs k2 I K J=>h.2 v vs k2 I K (by rw[D4z E];exact J)⟩
theorem B9u(p:Prog)(d:Decl)(x:Ty)(c:Ad):(Ue p d x c).map (λf=>(f.name,f.type))=(Y7 p d x c).map (λf=>(f.name,f.type)):=by unfold Ue Y7;rw[Fo,Fo];rfl
def C9f(p:Prog)(x:Ty)(c:Ad)(s:List Ty × List Ad):List Ty × List Ad:=match Kq p x c.name with
 |none=>s
 |some d=>Lh (L0 p (Y7 p d x c)) s (Bg (Nw d x c))
def C5c(p:Prog)(x:Ty)(c:Ad)(g:A5)(s:List Ty × List Ad):List Ty × List Ad:=(Co Ty.Av ((Ks g c).foldl (Co Ty.Av) s.1) (Lg g c),s.2)
def W8(p:Prog)(x:Ty)(c:Ad)(s:List Ty × List Ad):List Ty × List Ad:=match Km p x c with
 |none=>s
 |some g=>C9f p x c (C5c p x c g s)
structure IM(p:Prog)(r:Aj)(S:FS):Prop where
 q:QS r S.ts S.cs
 main:∀y,y∈Bg p.main->Lt p [] y S.ts S.cs
 dn:S.ds.Nodup
 dk:∀k,k∈S.ds->k.1∈r.types.map Ty.Av/\k.2∈[]::r.calls.map Ad.Av
 fld:∀x,D5 x r.types->(x.Av,[])∈S.ds->∀f,f∈Bh p x->D5 f.type S.ts
 app:∀x c,D5 x r.types->Hv c r.calls->(x.Av,c.Av)∈S.ds->Sa p x c S.ts S.cs
theorem C8n(ds:List (A3 × A3))(k:A3 × A3)(h:k∉ds):Co id ds k=ds++[k]:=by
 induction ds with
 |nil=>rfl
 |cons u l E =>simp only[Co,id];rw[A6 (λe=>h (by simp[e])),E λI=>h (by simp[I])];rfl
theorem D0t{r:Aj}{x:Ty}(h:D5 x r.types):x.Av∈r.types.map Ty.Av:=by obtain⟨u,E,e⟩:=h;rw[C5x e];exact List.mem_map_of_mem E
theorem D9e{r:Aj}{c:Ad}(h:Hv c r.calls):c.Av∈r.calls.map Ad.Av:=by obtain⟨u,E,e⟩:=h;rw[E5t e];exact List.mem_map_of_mem E
section
variable {p:Prog} {r:Aj} (h:Vp p r)
include h
omit h in
theorem IM.grow{S:FS}(M:IM p r S){E:List Ty}{cs':List Ad}(hq:QS r E cs')(hg:Gr S.ts S.cs E cs')(k:A3 × A3)(V:k∉S.ds)(W:k.1∈r.types.map Ty.Av/\k.2∈[]::r.calls.map Ad.Av)
  (hf:∀x,D5 x r.types->(x.Av,[])=k->∀f,f∈Bh p x->D5 f.type E)(ha:∀x c,D5 x r.types->Hv c r.calls->(x.Av,c.Av)=k->Sa p x c E cs'):IM p r ⟨E,cs',Co id S.ds k⟩:=by
 have J:∀{L},L∈Co id S.ds k->L∈S.ds\/L=k:=λ{L} J=>by rw[C8n _ _ V]at J;simpa using J
 refine⟨hq,λy hy=>(M.main y hy).gr hg,?_,λL Z=>?_,λx U I f O=>?_,λx c U hc I=>?_⟩
 .show(Co id S.ds k).Nodup;rw[C8n _ _ V,Ap9];refine⟨M.dn,by simp,λa a0 b hb=>?_⟩;rw[Ps.1 hb];rintro rfl;exact V a0
 .rcases J Z with h' |rfl
  .exact M.dk L h'
  .exact W
 .rcases J I with h' |h'
  .exact hg.t _ (M.fld x U h' f O)
  .exact hf x U h' f O
 .rcases J I with h' |h'
  .exact(M.app x c U hc h').gr hg
  .exact ha x c U hc h'
theorem IM.stepT{S:FS}(M:IM p r S){x:Ty}(J:D5 x r.types)(O:(x.Av,[]) ∉S.ds):IM p r ⟨Ki S.ts (Bh p x),S.cs,Co id S.ds (x.Av,[])⟩:=by
 have e:Ki S.ts (Bh p x)=((Bh p x).map (·.type)).foldl (Co Ty.Av) S.ts:=by rw[List.foldl_map];rfl
 obtain⟨W,V,U⟩:=QS.ups h.ct ((Bh p x).map (·.type)) M.q λt ht=>by obtain⟨f,I,rfl⟩:=B1.1 ht;exact h.fields J f I
 rw[e];refine M.grow W V (x.Av,[]) O ⟨D0t J,by simp⟩ (λy L E=>?_) λy c L Z E=>?_
 .simp only[Eo,Sh]at E;exact C3k (C0j (h.ct.t L) (h.ct.t J) E) λf I=>U _ (B1.2 ⟨f,I,rfl⟩)
 .simp only[Eo]at E;exact absurd E.2 (D4f c)
theorem F2o{s:List Ty × List Ad}(V:QS r s.1 s.2){x:Ty}(hx:D5 x r.types){c:Ad}(hc:Hv c r.calls) :
  QS r (W8 p x c s).1 (W8 p x c s).2/\Gr s.1 s.2 (W8 p x c s).1 (W8 p x c s).2/\Sa p x c (W8 p x c s).1 (W8 p x c s).2:=by
 have hn:=h.P8 hx hc;unfold W8;cases hs:Km p x c with
 |none=>exact⟨V,Gr.B6g,λg hg=>by rw[hs]at hg;cases hg⟩
 |some g =>
  obtain⟨n1,n2,n3⟩:=hn g hs;obtain⟨a1,a2,a3⟩:=QS.ups h.ct (Ks g c) V n1;obtain⟨Z,L,W⟩:=a1.upT h.ct n2;have key:∀J,Km p x c=some J->J=g:=λJ E=>by rw[hs]at E;exact(Pb E).symm
  simp only;unfold C9f C5c;cases M:Kq p x c.name with
  |none =>refine⟨Z,a2.trans L,λJ E=>?_⟩;rw[key J E];exact⟨λt ht=>L.t _ (a3 t ht),W,λd I=>by rw[M]at I;cases I⟩
  |some d =>obtain⟨c1,O,c3⟩:=QS.Wy (p:=p) h.ct (vars:=Y7 p d x c) (Bg (Nw d x c)) (s:=(Co Ty.Av ((Ks g c).foldl (Co Ty.Av) s.1) (Lg g c),s.2)) Z λy U=>(n3 d M y U).vars (B9u p d x c);refine⟨c1,(a2.trans L).trans O,λJ E=>?_⟩;rw[key J E];refine⟨λt ht=>O.t _ (L.t _ (a3 t ht)),O.t _ W,λd' I y U=>?_⟩;rw[M]at I;cases I;exact(c3 y U).vars (B9u p d x c).symm
theorem IM.G6v{S:FS}(M:IM p r S){x:Ty}(I:D5 x r.types){c:Ad}(J:Hv c r.calls)(U:(x.Av,c.Av) ∉S.ds):IM p r ⟨(W8 p x c (S.ts,S.cs)).1,(W8 p x c (S.ts,S.cs)).2,Co id S.ds (x.Av,c.Av)⟩:=by
 obtain⟨a1,W,V⟩:=F2o h (s:=(S.ts,S.cs)) M.q I J;refine M.grow a1 W (x.Av,c.Av) U ⟨D0t I,Wf _ (D9e J)⟩ (λy L E=>?_) λy d L O E=>?_
 .simp only[Eo]at E;exact absurd E.2.symm (D4f c)
 .simp only[Eo]at E;have e1:=C0j (h.ct.t L) (h.ct.t I) E.1;have Z:=D6i (h.ct.c O) (h.ct.c J) E.2;exact V.er h.ty e1.symm (Wg Z) (h.C4d I) (h.C6u J)
theorem IM.all{S:FS}(E:IM p r S)(L:∀x,x∈S.ts->S.done x):ClT p S.ts S.cs:=by
 refine⟨E.main,λx ⟨u,J,e⟩ f M=>?_,λx ⟨u,J,e⟩ c ⟨d,I,O⟩=>?_⟩
 .exact C3k e (E.fld u (E.q.it u J) (L u J).1) f M
 .exact(E.app u d (E.q.it u J) (E.q.ic d I) ((L u J).2 d I)).er h.ty e.symm (Wg O) (h.C4d (E.q.it u J)) (h.C6u (E.q.ic d I))
end
end Go.Abs
/- sizes of what the reference's set holds; the lists that both hand back -/
namespace Go.Abs
open Go
def A5.Na(s:A5):Prop:=s.name.length<=100050
structure Decl.Na(d:Decl):Prop where
 sigs:∀s,s∈d.sigs->s.Na
 sig:d.sig.Na
theorem A5.A6t(s:A5)(n:Int)(E:0<=n)(h:s.count n<=2000):s.Na:=by unfold A5.count at h;obtain⟨L,_⟩:=A6r s.A1 (n+((s.name.length / 50:Nat):Int));obtain⟨J,_⟩:=A7p s.params (C8 s.A1 (n+((s.name.length / 50:Nat):Int)));have I:=Ty.F9 s.result (D6 s.params (C8 s.A1 (n+((s.name.length / 50:Nat):Int))));unfold A5.Na;omega
theorem D7v:P2 Ec A5.Na:=N8 Ec A5.count A5.Na (λ_=>rfl) (λ_ _ _=>rfl) (λx k=>(A5.Gi x k).1) (λx k E h=>A5.A6t x k E h)
theorem Decl.A6t(d:Decl)(n:Int)(I:0<=n)(h:d.count n<=2000):d.Na:=by
 unfold Decl.count at h;generalize J:n+1+((d.name.length / 50:Nat):Int)+((d.recv.length / 50:Nat):Int)=m at h;obtain⟨Z,U⟩:=C0c d.A1 m;obtain⟨W,V⟩:=C0x d.fields (C8 d.A1 m);obtain⟨M,E⟩:=D7v d.sigs (D6 d.fields (C8 d.A1 m));obtain⟨e1,O⟩:=A2e d.vars (Ec d.sigs (D6 d.fields (C8 d.A1 m)));generalize hz:Jc d.vars (Ec d.sigs (D6 d.fields (C8 d.A1 m)))=z at*;unfold Decl.Ta at h;obtain⟨f1,_⟩:=A5.Gi d.sig z;have L:=Ex.F9 d.body (d.sig.count z);split at h
 .exact⟨(E (by omega) (by omega)).2,A5.A6t d.sig z (by omega) (by omega)⟩
 .omega
theorem E2c:P2 Im Decl.Na:=N8 Im Decl.count Decl.Na (λ_=>rfl) (λ_ _ _=>rfl) (λx k=>(Decl.Gi x k).1) (λx k E h=>Decl.A6t x k E h)
theorem Prog.A6t(p:Prog)(h:p.count<=600):∀d,d∈p.decls->d.Na:=by unfold Prog.count at h;have I:=Ex.F9 p.main 0;obtain⟨J,E⟩:=E2c p.decls (p.main.count 0);exact(E (by omega) (by omega)).2
theorem E0c{p:Prog}(L:∀d,d∈p.decls->d.Na){x:Ty}:∀s,s∈Dk p [] x->s.Na:=by
 intro s E;have key:∀{v:List A3} {y:A5},y.Na->(y.canon.subst v x.args).Na:=λh=>h;have U:Cm [] x=none:=by simp[Cm,Ez,Dq]
 unfold Dk at E;rw[U]at E;simp only[Nh,Ky,I6,Fy]at E;split at E
 .rename_i O;unfold H8 at E;rw[A9 O]at E;obtain⟨d,M,_⟩:=Qa (by decide) O;rw[M,E1]at E;unfold Xx Io at E;obtain⟨⟨y,i⟩,I,rfl⟩:=B1.1 E;have J:=Hh (Uv (Kc.1 I).1);exact key ((L _ (Qc M)).sigs y J)
 .unfold Gt at E;obtain⟨⟨d,i⟩,I,rfl⟩:=B1.1 E;have J:d∈p.decls:=Hh (Uv (Kc.1 I).1);exact key (L _ J).sig
def Aj.On(s:Aj):Prop:=s.Cv=false->∀c,c∈s.calls->D5 c.on s.types
theorem On.Dz{s:Aj}(h:s.On)(x:Ty):(Dz s x).On:=λJ c I=>by
 have E:=(A3f x).ext s;have L:=h (E.Cv J);have:(Go.Abs.Dz s x).calls=s.calls:=by unfold Go.Abs.Dz;split <;> rfl
 rw[this]at I;exact(L c I).ext E
theorem On.Fh{s:Aj}(h:s.On){x:Ad}(M:s.Cv=false->D5 x.on s.types):(Fh s x).On:=λJ c E=>by
 have L:=(C1u x).ext s;have I:=L.Cv J;have ht:(Go.Abs.Fh s x).types=s.types:=by unfold Go.Abs.Fh;split <;> rfl
 rw[ht];unfold Go.Abs.Fh at E;split at E
 .exact h I c E
 .rcases(Zh (cmp:=Ba) (x:=x) s.calls).2 c E with rfl|h'
  .exact M I
  .exact h I c h'
theorem On.Wy{p:Prog}{vars:List Param}{s:Aj}(h:s.On)(e:Ex):(Md p s e vars).On:=by
 refine foldI (Q:=Aj.On) _ (λs y M hs=>?_) h;unfold Go.Abs.Jh;split
 .exact On.Dz hs _
 split
 .split
  .exact hs
  .rename_i v vs L;have I:∀b,Aj.On { s with Cv:=s.Cv ||b }:=λb E c J=>by
    simp only[Uz]at E;exact hs E.1 c J
   unfold P8;split
   .exact I _
   .exact On.Fh (On.Dz (I _) _) λE=>B2a E
 .exact hs
theorem On.round{p:Prog}{s:Aj}(h:s.On):(Kw p s).On:=by
 refine foldI (Q:=Aj.On) _ (λo x _ E=>foldI (Q:=Aj.On) _ (λo c _ E=>?_) ?_) h
 .unfold Ju;split
  .exact E
  .have I:(Go.Abs.Dz (Jg o (Ks ‹A5› c)) (Lg ‹A5› c)).On:=On.Dz (foldI (Q:=Aj.On) _ (λs t _ h=>On.Dz h t) E) _;show Aj.On (No p (Go.Abs.Dz (Jg o (Ks ‹A5› c)) (Lg ‹A5› c)) x c);unfold No;split
   .exact I
   split
   .exact I
   .exact On.Wy I _
 .split
  .exact foldI (Q:=Aj.On) _ (λs t _ h=>On.Dz h t) E
  .exact E
theorem On.B5d{p:Prog}:∀(k:Nat) {s:Aj} (n:Int),s.On->(Gm p k s n).1.On
 |0,_,_,_=>λ_ c E=>by simp[Gm]at E
 |k+1,s,n,h=>by
  have I:Q9.On:=λ_ c E=>by simp at E
  rw[Gm];split
  .split
   .exact I
   .exact h
  .split
   .exact I
   .exact On.B5d k _ (On.round h)
theorem C8m{p:Prog}(h:(Cp p).2=true):∀c,c∈(Cp p).1.calls->D5 c.on (Cp p).1.types:=by
 have E:=A7h _ _ _ h;have I:(Cp p).1.Cv=false:=by have E:Sq (Cp p).1=false:=E;unfold Sq at E;simp only[Uz]at E;exact E.2.2.1
 exact On.B5d _ _ (On.Wy (s:=Q9) (λ_ c J=>by simp at J) _) I
theorem C8c(t:Ty):t.er.args=t.args.map Ty.er:=by rw[G9];rfl
theorem C2w{t u:Ty}(h:t.er=u.er)(k:t.Sm):u.Sm:=by
 have key:∀t:Ty,t.er.Sm↔t.Sm:=λt=>by
  induction t using Ty.induct with|_ t L=>?_
  constructor
  .intro h;have I:=h.name;have J:=h.len;rw[A3t]at I;rw[C8c,Bn]at J;have O:∀u,u∈t.args->u.Sm:=λu E=>(L u E).1 (h.arg _ (by rw[C8c];exact List.mem_map_of_mem E));cases t;exact .mk _ _ _ I J O
  .intro h;rw[G9];refine .mk _ _ _ h.name (by rw[Bn];exact h.len) λu E=>?_;obtain⟨w,M,rfl⟩:=B1.1 E;exact(L w M).2 (h.arg w M)
 exact(key u).1 (h ▸ (key t).2 k)
theorem B7s{t u:Ty}(h:t.er=u.er):t.Cb=u.Cb:=by
 have key:∀t:Ty,t.er.Cb=t.Cb:=λt=>by
  induction t using Ty.induct with|_ t J=>?_
  have E:∀l:List Ty,(∀u,u∈l->u.er.Cb=u.Cb)->Ty.C4 (l.map Ty.er)=Ty.C4 l:=λl E=>by
   induction l with
   |nil=>rfl
   |cons a l I=>rw[Ck,Ty.C4,Ty.C4,E a (by simp),I λu L=>E u (by simp[L])]
  rw[Ty.Mw,Ty.Mw,A3t,C8c,E _ J]
 rw[<-key t,<-key u,h]
theorem F9n{l m:List Ty}(h:l.map Ty.er=m.map Ty.er):Ty.C4 l=Ty.C4 m:=by have:=B7s (t:=.mk [] l 0) (u:=.mk [] m 0) (by rw[G9,G9,F4,F4,h];rfl);rw[Ty.Mw,Ty.Mw,F4,F4]at this;simp only[J2]at this;omega
theorem E3f{c d:Ad}(h:Ba c d=0)(k:c.Sm):d.Sm:=by
 obtain⟨I,J,E⟩:=A0m h;refine⟨C2w I k.on,J ▸ k.name,?_,λt ht=>?_⟩
 .have:=Gk List.length E;simp only[Bn]at this;have:=k.targs.1;omega
 .obtain⟨i,L⟩:=Hz ht;obtain⟨u,M,e⟩:=Vx E.symm L;exact C2w e (k.targs.2 u (Br M))
theorem C1v(c:Ad):c.Cb=c.name.length+4+(c.on.Cb+Ty.C4 c.targs):=by unfold Ad.Cb;rw[Ty.Mw,J2,F4,Ty.C4]
theorem E2e{c d:Ad}(h:Ba c d=0):c.Cb=d.Cb:=by obtain⟨I,E,J⟩:=A0m h;rw[C1v,C1v,E,B7s I,F9n J]
structure SzR(r:Aj):Prop where
 ts:∀t,D5 t r.types->t.Sm/\t.Cb<=sm
 cs:∀c,Hv c r.calls->c.Sm/\c.Cb<=sm
 tl:r.types.length<=sm
 cl:r.calls.length<=sm
theorem E0b{p:Prog}(hp:p.count<=600)(h:(Cp p).2=true)(V:(Cp p).1.Gd p):SzR (Cp p).1:=by
 have M:=Prog.V8 p hp;obtain⟨l1,U,W⟩:(Cp p).1.types.length+(Cp p).1.calls.length<=60/\(∀t,t∈(Cp p).1.types->t.Cb<=3600)/\∀c,c∈(Cp p).1.calls->Ty.C4 c.targs<=3600:=B9d (A7h _ _ _ h);have hs:=A5w M;have E:∀t,D5 t (Cp p).1.types->t.Sm/\t.Cb<=3600:=λt ⟨u,J,e⟩=>⟨C2w e.symm (hs.types.2 u J),by rw[B7s e];exact U u J⟩;refine⟨λt ht=>⟨(E t ht).1,D3 (E t ht).2 (by decide)⟩,λc ⟨d,I,e⟩=>⟨E3f (Wg e) (hs.calls.2 d I),?_⟩,by unfold sm;omega,by unfold sm;omega⟩;rw[E2e e,C1v];have Z:=(E d.on (C8m h d I)).2;have h2:=W d I;obtain⟨g,O,L,_⟩:=(V.calls d I).sig;have h3:d.name.length<=100050:=by rw[<-L];exact E0c (Prog.A6t p hp) g O
 unfold sm;omega
theorem QS.len{r:Aj}{ts:List Ty}{cs:List Ad}(h:QS r ts cs):ts.length<=r.types.length/\cs.length<=r.calls.length:=by
 constructor
 .have:=A9v h.tn (m:=r.types.map Ty.Av) λk E=>by
   obtain⟨t,ht,rfl⟩:=B1.1 E;exact D0t (h.it t ht)
  simpa using this
 .have:=A9v h.cn (m:=r.calls.map Ad.Av) λk E=>by
   obtain⟨t,ht,rfl⟩:=B1.1 E;exact D9e (h.ic t ht)
  simpa using this
theorem C7u{α:Type}{cmp:α->α->Int}(h3:∀a b c,T3 (cmp a b) (cmp b c) (cmp a c))(I:∀a b,cmp b a = - cmp a b):∀{l m:List α},l.Pairwise (λa b=>cmp a b<0)->m.Pairwise (λa b=>cmp a b<0)->(∀c,c∈l->∃d,d∈m/\cmp c d=0)->(∀c,c∈m->∃d,d∈l/\cmp c d=0) ->
  l.length=m.length/\∀(i:Nat) c d,l[i]?=some c->m[i]?=some d->cmp c d=0
 |[],[],_,_,_,_=>⟨rfl,by simp⟩
 |[],d::m,_,_,_,h=>by obtain⟨c,hc,_⟩:=h d (by simp);simp at hc
 |c::l,[],_,_,h,_=>by obtain⟨d,hd,_⟩:=h c (by simp);simp at hd
 |c::l,d::m,hl,hm,h1,h2=>by
  have E:∀{a b c:α},cmp a b<0->cmp b c<=0->cmp a c<0:=λ{a b c} h k=>(h3 a b c).1 h k;have tr:∀{a b c:α},cmp a b=0->cmp b c=0->cmp a c=0:=λ{a b c} h k=>(h3 a b c).2.2 h k;have sy:∀{a b:α},cmp a b=0->cmp b a=0:=λ{a b} h=>by rw[I,h];rfl
  have M:=Yy.1 hl;have J:=Yy.1 hm;have L:cmp c d=0:=by
   obtain⟨d',hd',U⟩:=h1 c (by simp);obtain⟨Z,hc',W⟩:=h2 d (by simp);rcases Aw.1 hd' with rfl|hd'
   .exact U
   rcases Aw.1 hc' with rfl|hc'
   .exact sy W
   have k1:=J.1 d' hd';have k2:=M.1 Z hc';have a2:=I d Z;have s1:=E k2 (by omega:cmp Z d<=0);have s2:=E s1 (by omega:cmp d d'<=0);omega
  have n1:∀x,x∈l->∃y,y∈m/\cmp x y=0:=λx O=>by
   obtain⟨y,hy,e⟩:=h1 x (by simp[O]);rcases Aw.1 hy with rfl|hy
   .have:=M.1 x O;have a1:=I x y;have:=tr L (by omega:cmp y x=0);omega
   .exact⟨y,hy,e⟩
  have n2:∀x,x∈m->∃y,y∈l/\cmp x y=0:=λx O=>by
   obtain⟨y,hy,e⟩:=h2 x (by simp[O]);rcases Aw.1 hy with rfl|hy
   .have:=J.1 x O;have a1:=I x y;have:=tr (sy L) (by omega:cmp y x=0);omega
   .exact⟨y,hy,e⟩
  obtain⟨U,W⟩:=C7u h3 I M.2 J.2 n1 n2;refine⟨by simp[U],λi a b I V=>?_⟩;cases i with
  |zero=>simp at I V;subst I V;exact L
  |succ i=>exact W i a b (by simpa using I) (by simpa using V)
end Go.Abs
/- what is known of the reference's set of a typed program; the calls on a type are the same -/
namespace Go.Abs
open Go
theorem D7c{p:Prog}(hr:p.right=true){d:Decl}(J:d∈p.decls):(∀s,s∈d.sigs->isName s.name=true)/\(d.kind=3->isName d.sig.name=true):=by
 simp only[Prog.right,Bc,Dr]at hr;have h:=hr.1 d J;simp only[Decl.right,Bc,Dr]at h;have key:∀{s:A5},s.right=true->isName s.name=true:=λ{s} h=>by simp only[A5.right,Bc]at h;exact h.1.1.1
 refine⟨λs I=>key (h.2.2.2.1 s I),λL=>?_⟩;have E:=h.2.2.2.2.2;unfold Decl.A2y at E;rw[A9 L]at E;simp only[Bc]at E;exact key E.2.2.1
theorem E0g{p:Prog}(hr:p.right=true){x:Ty}:∀s,s∈Dk p [] x->isName s.name=true:=by
 intro s E;have key:∀{v:List A3} {y:A5},isName y.name=true->isName (y.canon.subst v x.args).name=true:=λh=>h;have U:Cm [] x=none:=by simp[Cm,Ez,Dq]
 unfold Dk at E;rw[U]at E;simp only[Nh,Ky,I6,Fy]at E;split at E
 .rename_i O;unfold H8 at E;rw[A9 O]at E;obtain⟨d,M,_⟩:=Qa (by decide) O;rw[M,E1]at E;unfold Xx Io at E;obtain⟨⟨y,i⟩,J,rfl⟩:=B1.1 E;have L:=Hh (Uv (Kc.1 J).1);exact key ((D7c hr (Qc M)).1 y L)
 .unfold Gt at E;obtain⟨⟨d,i⟩,J,rfl⟩:=B1.1 E;have L:d∈p.decls:=Hh (Uv (Kc.1 J).1);have I:=(Kc.1 J).2;unfold Ke at I;simp only[Bc,Da]at I;exact key ((D7c hr L).2 (by first|exact I.1.1.1|exact I.1.1|exact I.1))
theorem C6d{n:A3}(h:isName n=true):∀c,c∈n->¬cut c:=λc E=>by
 refine E5r ?_;unfold isName at h;cases n with
 |nil=>simp at E
 |cons b r =>simp only[Bc,Dr]at h;exact h.1.2 c E
theorem D2f{p:Prog}(hp:p.count<=600)(I:Typed p)(O:(Cp p).2=true):Vp p (Cp p).1:=by
 have M:=C2o (Prog.V8 p hp).sm (Prog.U9 p hp) I.right;have E:=C7o I;have ht:∀t,t∈(Cp p).1.types->t.Ct:=λt ht=>(M.types t ht).ct;refine Vp.of I E ⟨ht,λc L=>⟨?_,?_,λt J=>(M.calls c L t J).ct⟩⟩ (D3y O)
 .obtain⟨g,V,U,_⟩:=(E.calls c L).sig;rw[<-U];exact C6d (E0g I.right g V)
 .obtain⟨u,W,e⟩:=C8m O c L;exact C1r e.symm (ht u W)
def A3k(cs rs:List Ad):Prop:=cs.length=rs.length/\∀(i:Nat) c d,cs[i]?=some c->rs[i]?=some d->Ba c d=0
theorem A3k.symm{cs rs:List Ad}(h:A3k cs rs):A3k rs cs:=⟨h.1.symm,λi c d I E=>Wg (h.2 i d c E I)⟩
theorem A3k.H4{cs rs:List Ad}(h:A3k cs rs)(p:Prog)(x:Ty):A2s (H4 p cs x) (H4 p rs x):=λc W=>by
 obtain⟨d,M,rfl⟩:=B1.1 W;obtain⟨I,J⟩:=Kc.1 M;obtain⟨i,L⟩:=Hz I;have E:i<rs.length:=by rw[<-h.1];exact(B5.1 L).1
 have V:=h.2 i d rs[i] L (B8 E);obtain⟨Z,U,O⟩:=A0m V;refine⟨⟨x,rs[i].name,rs[i].targs⟩,B1.2 ⟨rs[i],Kc.2 ⟨Fa E,B8m rfl Z J⟩,rfl⟩,C0k rfl U O⟩
end Go.Abs
/- a program without type parameters: its types and calls are a closed set -/
namespace Go.Abs
open Go
structure Yq(p:Prog):Prop where
 fo:∀d,d∈p.decls->d.A1=[]
 sigs:∀d,d∈p.decls->∀s,s∈d.sigs->s.A1=[]
 sig:∀d,d∈p.decls->d.sig.A1=[]
theorem Yq.of{p:Prog}(h:A8v p=true):Yq p:=by
 unfold A8v at h;simp only[Bc,Dr]at h;have E:=λd E=>h.2.1 d E;simp only[A0i,A3d,Bc,Da,Dr]at E;refine⟨λd I=>?_,λd I s hs=>?_,λd I=>?_⟩
 .exact Pa (by have:=(E d I).1;omega)
 .exact Pa ((E d I).2.2 s hs)
 .exact Pa (by have:=(E d I).1;omega)
section
variable {p:Prog}
open Classical in
end
end Go.Abs
