/- the types of the set that castingsref21.Find returns are well formed, its calls typed -/
import Derived.Test.YtieakoebgfiniaaGreatDoorZP28
set_option linter.all false
set_option maxHeartbeats 4000000
set_option maxRecDepth 100000
namespace Go.Abs
open Go
structure Typed(p:Prog):Prop where
 right:p.right=true
 head:HW p
 body:∀d,d∈p.decls->(A1u p true d).bad=false
 main:∃t,Eh (F8s p) p.main=(t,none)
theorem Typed.of{p:Prog}(hr:p.right=true)(E:(A4y p true).bad=false):Typed p:=by
 have I:=λk d L=>E1y (l:=p.decls) (i:=0) E k d L;refine⟨hr,λi d hd=>by grind,λd hd=>?_,?_⟩
 .grind[List.getElem?_of_mem]
 .have J:=D6c (l:=p.decls) (i:=0) E;exact⟨_,lax ⟨p,true,[],[]⟩ p.main _ (C8z J)⟩
theorem A7t(t:Ty):Cs [] t=none:=by grind[Cs]
theorem C8r{p:Prog}{t:Ty}(h:Bk p [] t=none):kindOf p t.name≠0/\(Em p t.name).length=t.args.length/\(∀u,u∈t.args->Bk p [] u=none)/\H5 p [] (Em p t.name) t.args<0:=by grind[A4d,A7t]
theorem B8j{p:Prog}{t:Ty}(h:Bk p [] t=none):Bh p t 1=true\/Bh p t 2=true:=by
 obtain⟨E,I,_⟩:=C8r h;obtain⟨d,hd,J,_⟩:=A8m E;have:=(A7m hd).1;unfold Bh
 grind
section
variable {p:Prog}
theorem sbD(hr:p.right=true)(hw:HW p){x:Ty}(hx:Bk p [] x=none){d:Decl}(hd:F7 p x.name=some d):Sb p d.A1 [] (Ad d.A1) x.args/\∀u,u∈x.args->Bk p [] u=none:=by
 have hp:=A7f hr hw;obtain⟨h1,Z,h3,W⟩:=C8r hx;obtain⟨d',I,_,L⟩:=A8m h1;rw[hd]at I;cases I;obtain⟨t1,t2⟩:=A0y (A0h hw hd).1;rw[L]at Z W;have E:∀n,n∈Ad d.A1->kindOf p n=0/\¬N0 n:=λn V=>by
  obtain⟨f,U,rfl⟩:=Au.1 V;obtain⟨i,hi⟩:=Qu U;refine⟨(t1 i f hi).1,A7s ?_⟩;have J:d.right=true:=by unfold Prog.right at hr;simp at hr;exact hr.1 d (A7m hd).2.2
  unfold Decl.right at J;simp only[Pr,Bb,Dm]at J
  grind
 refine⟨⟨rfl,by simp[Ad,Z],E,by simp[Ad],λu O=>(A0s (h3 u O)).mono λn V=>V.elim (by simp[Ad]) (hp.name n),λf L=>by grind,λi f u L O=>Zj.1 W i f u L O⟩,h3⟩
theorem E5a(hr:p.right=true)(I:HW p){x:Ty}(J:Bk p [] x=none){f:Param}(E:f∈Bx p x):Bk p [] f.type=none:=by
 unfold Bx at E;split at E
 .rename_i O;obtain⟨d,hd,L,_⟩:=Mm (by decide) O;rw[hd,Dz]at E;unfold fieldsD at E;obtain⟨y,U,rfl⟩:=Au.1 E;obtain⟨sb,V⟩:=sbD hr I J hd;exact Yt (A7f hr I) sb V ((A0h I hd).2.1 L y U)
 grind
theorem E9x(hr:p.right=true)(hw:HW p){x:Ty}(hx:Bk p [] x=none){I:Decl}(L:F7 p x.name=some I)(hk:I.kind=2){E:A3}(a3:E∈I.sigs){targs:List Ty}(a8:E.A1.length=targs.length)
  (ht:∀t,t∈targs->Bk p [] t=none)(hb:H5 p [] (E.canon.subst (Ad I.A1) x.args).A1 targs<0) :
  Sb p (I.A1++E.A1) [] (Ad I.A1++Ad E.A1) (x.args++targs)/\(∀u,u∈x.args++targs->Bk p [] u=none) /\
  ∀b:Ty,Bk p (I.A1++E.A1) b=none->((b.subst (Ad E.A1) (D8 E.A1.length)).subst (Ad I.A1) x.args).subst (Ad E.canon.A1) targs=b.subst (Ad I.A1++Ad E.A1) (x.args++targs):=by
 have hp:=A7f hr hw;obtain⟨sb,a'⟩:=sbD hr hw hx L;obtain⟨s1,s2,s3⟩:=A6n ((A0h hw L).2.2 hk E a3);obtain⟨f1,f2⟩:=A0y s1;have Z:(Ad I.A1).length=x.args.length:=sb.len.symm;have a7:∀u,u∈x.args++targs->Bk p [] u=none:=λu O=>(Bz.1 O).elim (a' u) (ht u);have a5:∀u,u∈x.args++targs->u.Lf λn=>¬N0 n:=λu O=>(A0s (a7 u O)).mono λn hn=>hn.elim (by simp[Ad]) (hp.name n);have aa:(Ad E.A1).length=E.A1.length:=by simp[Ad]
 have a4:∀m,m∈Ad I.A1->m∉Ad E.A1:=λm hm hf=>by
  obtain⟨f,ac,af⟩:=Au.1 hf
  grind[List.getElem?_of_mem]
 have a1:Ad E.canon.A1=(List.range E.A1.length).map E0:=by rw[(A9b E).fs];simp[A3.canon,Ha]
 have a0:∀b:Ty,Bk p (I.A1++E.A1) b=none->((b.subst (Ad E.A1) (D8 E.A1.length)).subst (Ad I.A1) x.args).subst (Ad E.canon.A1) targs=b.subst (Ad I.A1++Ad E.A1) (x.args++targs):=λb hb =>
  E8k (K:=λn=>kindOf p n≠0) aa a8.symm Z a1 a4 (λm hm=>(sb.fresh m hm).2) hp.name (λu O=>a5 u (List.mem_append_left _ O)) b
   ((A0s hb).mono λn hn=>by grind[Ad])
 have ae:∀f,f∈E.A1->isName f.name=true:=λf hf=>by
  have a2:I.right=true:=by unfold Prog.right at hr;simp at hr;exact hr.1 I (A7m L).2.2
  unfold Decl.right at a2;simp at a2;have:=a2.2.2.2.1 E a3;simp only[A3.right,Pr,Bb,Dm]at this
  grind
 have J:∀n,n∈Ad I.A1++Ad E.A1->kindOf p n=0/\¬N0 n:=λn hn=>by
  rcases Bz.1 hn with h|h
  .exact sb.fresh n h
  .obtain⟨f,ac,rfl⟩:=Au.1 h
   grind[List.getElem?_of_mem,A7s]
 have U:Ad (I.A1++E.A1)=Ad I.A1++Ad E.A1:=by unfold Ad;rw[G0]
 obtain⟨t1,t2⟩:=A0y (A0h hw L).1;have W:∀n,n∈Ad (I.A1++E.A1)->kindOf p n=0:=λn hn=>(J n (by grind)).1;refine⟨⟨U.symm,by grind,J,by simp[Ad],a5,λf hf=>?_,λi f u hf O=>?_⟩,a7,a0⟩
 .rcases Bz.1 hf with hf|hf
  .have V:=(t2 f hf).2;simp at V;unfold isIface at V |-;rw[Bb]at V |-;refine⟨V.1,?_⟩;rw[B3h W (by grind[Ps])];rfl
  grind
 .by_cases ag:i<I.A1.length
  .rw[L4 (by omega)]at hf;rw[L4 (by grind[Ad])]at O;have ad:=sb.bnd i f u hf O;refine X7 ad (Y6 ?_);rw[G3p Z ((hp.bnd _ I L f (C6 hf)).mono λn hn=>hn.imp_right λh hm=>h (by grind))]
  .rw[Kd (by omega)]at hf;have ab:x.args.length=I.A1.length:=by rw[<-Z];simp[Ad]
   rw[Kd (by omega),ab]at O;have ai:=C6 hf;have a9:(E.canon.subst (Ad I.A1) x.args).A1[i - I.A1.length]?=some ⟨E0 (i - I.A1.length),(f.bound.subst (Ad E.A1) (D8 E.A1.length)).subst (Ad I.A1) x.args,f.pos⟩:=by have a6:=(Az.1 hf).1;simp only[A3.subst,A3.canon,Ha];rw[Df,Sd,hf];simp only[Ez,Ah.subst,A8 a6]
   have:=Zj.1 hb _ _ u a9 O;simp only at this;have ah:Ad (E.canon.subst (Ad I.A1) x.args).A1=Ad E.canon.A1:=by simp only[A3.subst,Ad,Ff];rfl
   grind
theorem D5c(hr:p.right=true)(W:HW p){x:Ty}(hx:Bk p [] x=none){g:A3}(V:g∈Cw p [] x){targs:List Ty}(I:g.A1.length=targs.length)(ht:∀t,t∈targs->Bk p [] t=none)(hb:H5 p [] g.A1 targs<0) :
  Bk p [] (g.result.subst (Ad g.A1) targs)=none/\∀q,q∈g.params->Bk p [] (q.type.subst (Ad g.A1) targs)=none:=by
 have hp:=A7f hr W;rcases B8j hx with hi|hi
 .obtain⟨d,d1,d2,d3,d4,rfl,d6⟩:=A5p hi V;have L:d.sig.A1.length=targs.length:=by rw[<-I];simp[A3.subst,A3.canon,Ha]
  have E:=called hr W d1 d2 hx hi d3 L ht hb;obtain⟨_,_,_,m4⟩:=B9j W d1 d2;obtain⟨_,c2,c3⟩:=A6n m4;have O:Ad (d.sig.canon.subst d.vars x.args).A1=Ad d.sig.canon.A1:=by simp only[A3.subst,Ad,Ff];rfl
  rw[O];refine⟨?_,λq Z=>?_⟩
  .show Bk p [] (((d.sig.result.subst (Ad d.sig.A1) (D8 d.sig.A1.length)).subst d.vars x.args).subst (Ad d.sig.canon.A1) targs)=none;rw[E.inst _ c3];exact Yt hp E.sb E.wf c3
  .simp only[A3.subst,A3.canon,It,Au]at Z;obtain⟨q1,U,rfl⟩:=Z;obtain⟨i,f,hf,_,rfl⟩:=mem_mapIdx U;have hc:=c2 f (C6 hf);show Bk p [] (((f.type.subst (Ad d.sig.A1) (D8 d.sig.A1.length)).subst d.vars x.args).subst (Ad d.sig.canon.A1) targs)=none;rw[E.inst _ hc];exact Yt hp E.sb E.wf hc
 .have a0:isIface p [] x=true:=by unfold isIface;rw[hi,A7t];rfl
  rw[B3g a0]at V;unfold Gs at V;rw[A8 hi]at V;obtain⟨d,hd,hk,_⟩:=Mm (by decide) hi;rw[hd,Dz]at V;unfold Vm Hn at V;obtain⟨⟨y,i⟩,hy,rfl⟩:=Au.1 V;have J:=Ji (W7 (Jz.1 hy).1);simp only at J I hb |-;have L:y.A1.length=targs.length:=by rw[<-I];simp[A3.subst,A3.canon,Ha]
  obtain⟨sb,wf,inst⟩:=E9x hr W hx hd hk J L ht hb;obtain⟨_,c2,c3⟩:=A6n ((A0h W hd).2.2 hk y J);have O:Ad (y.canon.subst (Ad d.A1) x.args).A1=Ad y.canon.A1:=by simp only[A3.subst,Ad,Ff];rfl
  rw[O];refine⟨?_,λq Z=>?_⟩
  .show Bk p [] (((y.result.subst (Ad y.A1) (D8 y.A1.length)).subst (Ad d.A1) x.args).subst (Ad y.canon.A1) targs)=none
   grind[Yt]
  .simp only[A3.subst,A3.canon,It,Au]at Z;obtain⟨q1,U,rfl⟩:=Z;obtain⟨j,f,hf,_,rfl⟩:=mem_mapIdx U;have hc:=c2 f (C6 hf);show Bk p [] (((f.type.subst (Ad y.A1) (D8 y.A1.length)).subst (Ad d.A1) x.args).subst (Ad y.canon.A1) targs)=none
   grind[Yt]
theorem D1o(hr:p.right=true)(V:HW p){st:Bool}{vars:List Param}(U:∀f,f∈vars->Bk p [] f.type=none):∀(e:Ex)(t:Ty),Eh ⟨p,st,[],vars⟩ e=(t,none)->Bk p [] t=none:=by
 intro e
 induction e using Ex.induct with|_ e O=>?_
 intro t h;rcases Nf.1 h with⟨_,k,f,_,J,rfl⟩|⟨_,E,_,_,rfl⟩|⟨v,vs,x,L,I,h⟩
 .grind
 .exact E
 grind[A6i,D5c,E5a]
theorem C9p{c:Cf}{e:Ex}{t:Ty}(L:e.One)(ht:Eh c e=(t,none)):∀x,x∈e.kids->∃K,Eh c x=(K,none):=by
 have key:∀(O:List Ty) (es:List Ex),Y3 c O es->∀x,x∈es->∃K,Eh c x=(K,none):=λO es I x E=>by
  obtain⟨i,V⟩:=Qu E;have J:i<O.length:=by rw[I.1];exact(Az.1 V).1
  obtain⟨K,hk,_⟩:=I.2 i _ x (Bi J) V
  grind
 rcases Nf.1 ht with⟨k1,_⟩|⟨_,_,_,I,_⟩|⟨v,vs,x,U,E,Z⟩
 .intro x E;rw[L.out.1.1 k1]at E;grind
 .grind
 .intro y hy;rw[U]at hy;rcases B1.1 hy with rfl|hy
  .grind
  .rcases Z with⟨_,s,_,I,_⟩|⟨k4,_⟩|⟨W,_⟩
   .grind
   .have:=L.out.1.2 (.inl k4);grind
   .have:=L.out.1.2 (.inr W);grind
theorem D6d{c:Cf}{e:Ex}{t:Ty}(I:e.One)(ht:Eh c e=(t,none)):∀y,y∈B8 e->y.One/\∃K,Eh c y=(K,none) :=
 A8n (Q:=λy=>y.One/\∃K,Eh c y=(K,none)) (λe h x E=>⟨h.1.out.2 x E,by grind[C9p]⟩) e ⟨I,t,ht⟩
theorem H5e{vars:List Param}(v:List A2)(a:List Ty)(nm:A2):Hj (vars.map (Param.subst v a)) nm=Hj vars nm:=by unfold Hj Dr;rw[List.findIdx?_map];rfl
theorem H3a{env env':List Ah}{v:List A2}{a:List Ty}(O:PW p)(sb:Sb p env env' v a)(U:∀u,u∈a->Bk p env' u=none){st:Bool}{vars:List Param} :
  ∀(e:Ex) (t:Ty),Eh ⟨p,st,env,vars⟩ e=(t,none)->∃J,Eh ⟨p,false,env',vars.map (Param.subst v a)⟩ (e.subst v a)=(J,none)/\Cv p env' J (t.subst v a)=true:=by
 intro e
 induction e using Ex.induct with|_ e V=>?_
 intro t h;by_cases k1:e.kind=1
 .rcases Nf.1 h with⟨_,k,f,I,E,rfl⟩|⟨h3,_⟩|⟨_,_,_,_,_,h3|h3|h3⟩
  .refine⟨f.type.subst v a,Nf.2 (.inl ⟨by rw[P0];exact k1,k,Param.subst v a f,?_,?_,rfl⟩),C5e _ _ _⟩
   .show Hj (vars.map (Param.subst v a)) (e.subst v a).name=k;rw[H5e,P0];exact I
   grind
  all_goals omega
 .refine F1y O sb U (vars:=vars) (e:=e) (by rw[P0];rfl) (by rw[P0];rfl) (by rw[P0];rfl) (by rw[P0];rfl) (by rw[P0];simp[Ex.kids]) k1 h ?_;intro i k L K I E h3;rw[P0]at E;have E:(e.kids.map (Ex.subst v a))[i]?=some L:=E
  grind
structure A6d(p:Prog)(c:B9):Prop where
 on:Bk p [] c.on=none
 targs:∀t,t∈c.targs->Bk p [] t=none
 sig:∃g,g∈Cw p [] c.on/\g.name=c.name/\g.A1.length=c.targs.length/\H5 p [] g.A1 c.targs<0
structure An.Gd(p:Prog)(s:An):Prop where
 types:∀t,t∈s.types->Bk p [] t=none
 calls:∀c,c∈s.calls->A6d p c
theorem An.Gd.lg{s:An}(h:s.Gd p)(b:Bool):An.Gd p { s with D9:=b }:=⟨h.types,h.calls⟩
theorem B5c{s:An}(hs:s.Gd p){x:Ty}(E:Bk p [] x=none):(Gp s x).Gd p:=by
 unfold Gp;split
 .exact⟨hs.types,hs.calls⟩
 .refine⟨λt ht=>?_,hs.calls⟩;rcases(A4c (cmp:=E6) (x:=x) s.types).2 t ht with rfl|h
  .exact E
  .exact hs.types t h
theorem H1b{s:An}(hs:s.Gd p){x:B9}(E:A6d p x):(Gj s x).Gd p:=by
 unfold Gj;split
 .exact⟨hs.types,hs.calls⟩
 .refine⟨hs.types,λt ht=>?_⟩;rcases(A4c (cmp:=Dn) (x:=x) s.calls).2 t ht with rfl|h
  .exact E
  .exact hs.calls t h
theorem H0q(hr:p.right=true)(hw:HW p){vars:List Param}(hv:∀f,f∈vars->Bk p [] f.type=none){y v:Ex}{vs:List Ex}{t x:Ty}(ht:Eh ⟨p,false,[],vars⟩ y=(t,none))(h2:y.kind=2)(O:y.kids=v::vs)(J:Eh ⟨p,false,[],vars⟩ v=(x,none)):A6d p ⟨x,y.name,y.targs⟩:=by
 rcases Nf.1 ht with⟨h,_⟩|⟨h,_⟩|⟨v',U,x',E,I,h⟩
 .omega
 .omega
 rw[O]at E;cases E;rw[J]at I;cases I;rcases h with⟨_,s,hs,_⟩|⟨h,_⟩|⟨h,_⟩
 .obtain⟨s1,V,W,L,Z,_⟩:=A6i.1 hs;exact⟨D1o hr hw hv v x J,L,s,s1,V,W,Z⟩
 all_goals omega
theorem D5x(hr:p.right=true)(J:HW p){vars:List Param}(I:∀f,f∈vars->Bk p [] f.type=none){e:Ex}{t:Ty}(O:e.One)(ht:Eh ⟨p,false,[],vars⟩ e=(t,none)){s:An}(hs:s.Gd p):(Nc p s e vars).Gd p:=by
 refine foldI _ (λs y V hs=>?_) hs;obtain⟨_,K,U⟩:=D6d O ht y V;unfold Kv;split
 .grind[B5c,Nf]
 split
 .rename_i k2;split
  .exact hs
  .rename_i v vs L;unfold T0;split
   .exact⟨hs.types,hs.calls⟩
   .rename_i W;have E:=C8z (c:=⟨p,false,[],vars⟩) (e:=v) (by grind);exact H1b (B5c (hs.lg _) (D1o hr J I v _ E)) (H0q hr J I U k2 L E)
 omega
theorem E7z{g I:A3}(h:g.er=I.er){a:List Ty}(Z:H5 p [] I.A1 a<0):H5 p [] g.A1 a<0:=by
 obtain⟨_,O,_⟩:=A1m h;have hn:Ad g.A1=Ad I.A1:=by rw[<-X5 g.A1,O,X5]
 refine Zj.2 λi f u J V=>?_;obtain⟨U,E,W⟩:=A4h O J;have L:=Zj.1 Z i U u E V;refine X7 L (Y6 ?_);have a0:U.bound.er=f.bound.er:=by have:=Gi Ah.bound W;simpa [Ah.er]using this
 grind[Ik]
theorem D6m{x:Ty}{c:B9}(V:A6d p c){g:A3}(h:Mu p x c=some g):g∈Cw p [] x/\g.name=c.name/\g.A1.length=c.targs.length/\Cv p [] x c.on=true/\H5 p [] g.A1 c.targs<0:=by
 unfold Mu at h;split at h
 .cases h
 rename_i Z;split at h
 .cases h
 rename_i g' E;split at h
 .rename_i I;cases h;have J:=Nt.1 (C6 E);have L:g.name=c.name:=by
   unfold Fb at E Z;rcases N4 (λs:A3=>decide (s.name=c.name)) (C7 p [] x)with⟨U,_⟩|⟨j,y,U,h2,h3⟩
   .omega
   .grind
  refine⟨J,L,I.1,I.2,?_⟩;obtain⟨g0,m0,n0,_,b0⟩:=V.sig;obtain⟨W,O,es⟩:=A7v I.2 g0 m0;have:W=g:=A2k (A8b p [] x) O J (by rw[L,<-n0];have:=Gi A3.name es;simpa [A3.er]using this)
  grind[E7z]
 grind
theorem D0m(L:Typed p){x:Ty}(hx:Bk p [] x=none){c:B9}(hc:A6d p c){g:A3}(h:Mu p x c=some g){d:Decl}(hd:Jr p x c.name=some d) :
  d∈p.decls/\d.kind=3/\g=d.sig.canon.subst d.vars x.args/\D7t p d x c.targs/\(∀f,f∈Ws p d x c->Bk p [] f.type=none) /\
  ∃t,Eh ⟨p,false,[],Ws p d x c⟩ (My d x c)=(t,none)/\Cv p [] t (d.sig.result.subst (Mr d) (Jt x c))=true:=by
 have Z:=A7f L.right L.head;obtain⟨g1,g2,g3,g4,g5⟩:=D6m hc h;obtain⟨J,V,hi,_⟩:=A2n hd;obtain⟨d',_,_,d3,_,he,U⟩:=A5p hi g1;rw[g2,hd]at U;cases U;subst he;have W:d.sig.A1.length=c.targs.length:=by rw[<-g3];simp[A3.subst,A3.canon,Ha]
 have E:=called L.right L.head J V hx hi d3 W hc.targs g5;obtain⟨_,_,_,m4⟩:=B9j L.head J V;obtain⟨_,c2,c3⟩:=A6n m4;have I:=L.body d J;unfold A1u at I;rw[A8 V]at I;unfold Uw at I;have O:(Dk (Na p true d) d.body).2.bad=false/\Cv p (Hf p d++d.sig.A1) (Dk (Na p true d) d.body).1 d.sig.result=true:=by
  split at I
  .cases I
  .grind[Na]
 obtain⟨t',k1,k2⟩:=H3a Z E.sb E.wf (st:=true) (vars:=(Na p true d).vars) d.body _ (C8z O.1);refine⟨J,V,rfl,E,λf hf=>?_,t',k1,X7 k2 (B6c Z E.sb O.2)⟩;obtain⟨q,hq,rfl⟩:=Au.1 hf;rcases B1.1 hq with rfl|hq
 .exact E5x E.self.symm hx
 .exact Yt Z E.sb E.wf (c2 q hq)
theorem E6d{d:Decl}(h:d.body.One)(x:Ty)(c:B9):(My d x c).One:=Ex.One.subst _ _ h
theorem F1q(E:Typed p){x:Ty}(J:Bk p [] x=none){s:An}(hs:s.Gd p){c:B9}(I:A6d p c):(Kg p x s c).Gd p:=by
 unfold Kg;split
 .exact hs
 .rename_i g h;obtain⟨g1,g2,g3,g4,g5⟩:=D6m I h;obtain⟨U,O⟩:=D5c E.right E.head J g1 g3 I.targs g5;have Z:(Gp (Jx s (Wr g c)) (Wg g c)).Gd p:=B5c (foldI _ (λs t ht h=>by
   obtain⟨q,hq,rfl⟩:=Au.1 ht;exact B5c h (O q hq)) hs) U
  unfold Qs;rcases C0w p x c.name with⟨L,_⟩|⟨j,d,L,hd,V⟩
  .grind
  .rw[L,A6 (by omega),Je,hd];simp only;obtain⟨b1,W,_,_,b3,t,b4,_⟩:=D0m E J I h V;exact D5x E.right E.head b3 (E6d ((C7o E.right).1 d b1 W) x c) b4 Z
theorem H4z(E:Typed p){s:An}(hs:s.Gd p):(Kz p s).Gd p:=by
 refine foldI _ (λo x J I=>foldI _ (λo c O I=>F1q E (hs.types x J) I (hs.calls c O)) ?_) hs;split
 .refine foldI _ (λs t ht h=>?_) I;obtain⟨f,L,rfl⟩:=Au.1 ht;exact B5c h (E5a E.right E.head (hs.types x J) L)
 omega
theorem D1y(E:Typed p):∀(k:Nat) {s:An} (n:Int),s.Gd p->(Hx p k s n).1.Gd p
 |0,_,_,_=>⟨by simp[Hx],by simp[Hx]⟩
 |k+1,s,n,h=>by
  have I:An.Gd p Sz:=⟨by simp,by simp⟩;rw[Hx];split
  .grind
  .split
   .exact I
   .exact D1y E k _ (H4z E h)
theorem G0h(E:Typed p):(Km p).1.Gd p:=by obtain⟨t,ht⟩:=E.main;exact D1y E _ _ (D5x E.right E.head (by simp) (C7o E.right).2 ht ⟨by simp,by simp⟩)
end
end Go.Abs
/- names of instances are different: what a name was made of can be read from it -/
namespace Go.Abs
open Go
def Fz:A2->List (UInt8 × Bool)
 |[]=>[]
 |[c]=>[(c,false)]
 |a::b::r=>if a=95 then(if b=95 then(95,false)::Fz r else(b,true)::Fz r)else(a,false)::Fz (b::r)
abbrev Ss(n:A2):List (UInt8 × Bool):=n.map λc=>(c,false)
theorem E2h{c:UInt8}(h:c≠95)(s:A2):Fz (c::s)=(c,false)::Fz s:=by
 cases s with
 |nil=>rfl
 |cons b r=>rw[Fz,A6 h]
theorem A7o{c:UInt8}(h:c≠95)(s:A2):Fz (95::c::s)=(c,true)::Fz s:=by rw[Fz,A8 rfl,A6 h]
theorem C7t(n s:A2):Fz (Ew n++s)=Ss n++Fz s:=by
 induction n with
 |nil=>rfl
 |cons c n E =>
  rw[show Ew (c::n)=(if c=95 then[95,95]else[c])++Ew n by rfl,Ga,show Ss (c::n)=(c,false)::Ss n from rfl,Jq,<-E];by_cases h:c=95
  .subst h;rfl
  .rw[A6 h];exact E2h h _
theorem G7c{n:A2}(h:∀c,c∈n->c≠95)(s:A2):Fz (n++s)=Ss n++Fz s:=by
 induction n with
 |nil=>rfl
 |cons c n E =>grind[E2h]
def We:List (List (UInt8 × Bool))->List (UInt8 × Bool)
 |[]=>[]
 |[x]=>x
 |x::y::r=>x++(67,true)::We (y::r)
mutual
def Ty.tk:Ty->List (UInt8 × Bool)
 |.mk n a _=>if n.head? =some 36/\a.isEmpty=true then(86,true)::Ss (n.drop 1)else Ss n++(if a.isEmpty=true then[]else(76,true)::(We (Ty.tkL a)++[(82,true)]))
def Ty.tkL:List Ty->List (List (UInt8 × Bool))
 |[]=>[]
 |t::E=>t.tk::Ty.tkL E
end
theorem Ty.E7h:∀l:List Ty,Ty.tkL l=l.map Ty.tk
 |[]=>rfl
 |t::E=>by rw[Ty.tkL,Ty.E7h E,Ck]
def V0(l:List Ty):List (UInt8 × Bool):=if l=[]then[]else(76,true)::(We (l.map Ty.tk)++[(82,true)])
theorem Ty.Ya(t:Ty):t.tk=if t.name.head? =some 36/\t.args=[]then(86,true)::Ss (t.name.drop 1)else Ss t.name++V0 t.args:=by
 obtain⟨n,a,q⟩:=t
 grind[Ty.tk,Ty.E7h,Ty.name,Ty.args,V0]
theorem F3r(i:Nat):∀c,c∈Lib.decDigits i->c≠95:=by
 induction i using Nat.strongRecOn with|_ u I=>?_
 intro c hc;rw[Lib.decDigits]at hc;split at hc
 .rename_i h;rw[U0.1 hc];intro E;have:=Gi UInt8.toNat E;simp at this;omega
 .rename_i h;rcases Bz.1 hc with hc|hc
  .grind
  .rw[U0.1 hc];intro E;have:=Gi UInt8.toNat E;simp at this;omega
theorem E6q:∀(l:List Ty)(s:A2),(∀t,t∈l->∀r,Fz (t.mg++r)=t.tk++Fz r)->Fz (Lib.join (l.map Ty.mg) Q6++s)=We (l.map Ty.tk)++Fz s
 |[],s,_=>by rfl
 |[x],s,h=>by rw[show Lib.join ([x].map Ty.mg) Q6=x.mg by simp[Lib.join_cons,Lib.joinTail]];exact h x (by simp) s
 |x::y::r,s,h=>by
  have E:=E6q (y::r) s λt ht=>h t (by grind);have e:Lib.join ((x::y::r).map Ty.mg) Q6=x.mg++(Q6++Lib.join ((y::r).map Ty.mg) Q6):=by simp[Lib.join_cons,Lib.joinTail]
  rw[e,Ga,h x (by simp)];show x.tk++Fz (95::67::(Lib.join ((y::r).map Ty.mg) Q6++s))=_
  grind[A7o,We]
theorem E8g{l:List Ty}(h:∀t,t∈l->∀r,Fz (t.mg++r)=t.tk++Fz r)(s:A2):Fz (Jb l++s)=V0 l++Fz s:=by
 unfold Jb V0;by_cases E:l=[]
 .grind
 .rw[A6 E,A6 E];show Fz (95::76::(Lib.join (l.map Ty.mg) Q6++[95,82]++s))=_
  grind[E6q,Fz]
theorem A6q:∀{t:Ty},t.Mg->∀s,Fz (t.mg++s)=t.tk++Fz s:=by
 intro t ht
 induction ht with
 |loc i p O =>
  intro s;rw[Ty.A1f,Ty.Ya,A8 ⟨rfl,rfl⟩,A8 ⟨rfl,rfl⟩];simp only[E0,Ty.name,Vt,At1,Aq4]
  grind[A7o,G7c,F3r]
 |Pg n a p I U V L J =>
  intro s;have E:¬((Ty.mk n a p).name.head? =some 36/\(Ty.mk n a p).args=[]):=λh=>B0f I h.1;rw[Ty.A1f,Ty.Ya,A6 E,A6 E,Ga,C7t,Ga]
  congr 1
  exact E8g (l:=a) (λt ht r=>J t ht r) s
def Sep(r:List (UInt8 × Bool)):Prop:=r=[]\/∃c E,r=(c,true)::E/\c≠76
theorem A4t:∀{n m:A2} {r1 r2:List (UInt8 × Bool)},(r1=[]\/∃c E,r1=(c,true)::E)->(r2=[]\/∃c E,r2=(c,true)::E)->Ss n++r1=Ss m++r2->n=m/\r1=r2
 |[],[],r1,r2,_,_,h=>⟨rfl,h⟩
 |[],c::m,r1,r2,I,_,h=>by grind
 |c::n,[],r1,r2,_,J,h=>by grind
 |c::n,d::m,r1,r2,I,J,h=>by
  simp at h;obtain⟨O,L⟩:=A4t I J h.2
  grind
theorem Sep.C8n{r:List (UInt8 × Bool)}(h:Sep r):r=[]\/∃c E,r=(c,true)::E:=h.imp id λ⟨c,E,h,_⟩=>⟨c,E,h⟩
theorem B0o{l:List Ty}{r:List (UInt8 × Bool)}(h:Sep r):V0 l++r=[]\/∃c E,V0 l++r=(c,true)::E:=by
 unfold V0;split
 .exact h.C8n
 simp
theorem C5p:∀{a b:List Ty} {r1 r2:List (UInt8 × Bool)},a≠[]->b≠[]->(∀t,t∈a->∀u:Ty,u.Mg->∀r1 r2,Sep r1->Sep r2->t.tk++r1=u.tk++r2->t.er=u.er/\r1=r2)->(∀u,u∈b->u.Mg) ->
  We (a.map Ty.tk)++(82,true)::r1=We (b.map Ty.tk)++(82,true)::r2->a.map Ty.er=b.map Ty.er/\r1=r2
 |[x],[y],r1,r2,_,_,E,I,h=>by
  obtain⟨U,J⟩:=E x (by simp) y (I y (by simp)) _ _ (.inr ⟨82,r1,rfl,by decide⟩) (.inr ⟨82,r2,rfl,by decide⟩) h
  grind
 |[x],y::O::b,r1,r2,_,_,E,I,h=>by
  simp only[Ck,G3,We,Ga,Jq]at h;obtain⟨_,J⟩:=E x (by simp) y (I y (by simp)) _ _ (.inr ⟨82,r1,rfl,by decide⟩) (.inr ⟨67,_,rfl,by decide⟩) h
  grind
 |x::L::a,[y],r1,r2,_,_,E,I,h=>by
  simp only[Ck,G3,We,Ga,Jq]at h;obtain⟨_,J⟩:=E x (by simp) y (I y (by simp)) _ _ (.inr ⟨67,_,rfl,by decide⟩) (.inr ⟨82,r2,rfl,by decide⟩) h
  grind
 |x::L::a,y::O::b,r1,r2,_,_,E,I,h=>by
  rw[Ck,Ck,Ck,Ck,We,We,Ga,Ga,Jq,Jq]at h;obtain⟨U,J⟩:=E x (by simp) y (I y (by simp)) _ _ (.inr ⟨67,_,rfl,by decide⟩) (.inr ⟨67,_,rfl,by decide⟩) h;simp at J;rw[<-Ck (f:=Ty.tk),<-Ck (f:=Ty.tk)]at J;obtain⟨Z,W⟩:=C5p (a:=L::a) (b:=O::b) (by simp) (by simp) (λt ht=>E t (by grind)) (λu V=>I u (by grind)) J
  grind
theorem C3a:∀{t:Ty},t.Mg->∀u:Ty,u.Mg->∀r1 r2,Sep r1->Sep r2->t.tk++r1=u.tk++r2->t.er=u.er/\r1=r2:=by
 intro t ht
 induction ht with
 |loc i p hi =>
  intro u O r1 r2 I J h;rw[Ty.Ya,A8 ⟨rfl,rfl⟩]at h;cases O with
  |loc j q W =>
   rw[Ty.Ya,A8 ⟨rfl,rfl⟩]at h;simp only[Jq,Z2,Qi]at h;obtain⟨U,E⟩:=A4t I.C8n J.C8n h
   grind[Ht,Ty.name,Ty.args,E0]
  |Pg n a q k1 k2 k3 k4 =>
   rw[Ty.Ya,A6 λh=>B0f k1 h.1]at h
   grind[B8y,Ty.name]
 |Pg n a p k1 k2 k3 k4 ih =>
  intro u O r1 r2 I J h;rw[Ty.Ya,A6 λh=>B0f k1 h.1]at h;cases O with
  |loc j q W =>
   rw[Ty.Ya,A8 ⟨rfl,rfl⟩]at h
   grind[B8y,Ty.name]
  |Pg m b q Z l2 l3 l4 =>
   rw[Ty.Ya,A6 λh=>B0f Z h.1,Ga,Ga]at h;obtain⟨U,E⟩:=A4t (B0o I) (B0o J) h;simp only[Ty.name,Ty.args]at U E;subst U;rw[Ht,Ht];simp only[Ty.name,Ty.args];unfold V0 at E;by_cases V:a=[]
   .rw[A8 V]at E;by_cases L:b=[]
    .grind
    .rw[A6 L]at E;rcases I with rfl|⟨c,r',rfl,hc⟩
     all_goals grind
   .rw[A6 V]at E;by_cases L:b=[]
    .rw[A8 L]at E;rcases J with rfl|⟨c,r',rfl,hc⟩
     all_goals grind
    .rw[A6 L]at E;simp at E
     grind[C5p]
theorem E7b{t u:Ty}(ht:t.Mg)(E:u.Mg)(h:t.mg=u.mg):t.er=u.er:=by have I:=A6q ht [];have J:=A6q E [];rw[h]at I;rw[J]at I;exact(C3a ht u E [] [] (.inl rfl) (.inl rfl) (by simp_all)).1
theorem C2n(n:A2){l:List Ty}(E:∀t,t∈l->t.Mg)(s:A2):Fz (Gq n l++s)=Ss n++V0 l++Fz s:=by grind[Gq,C7t,E8g,A6q]
theorem D6z{n m:A2}{a b:List Ty}(O:∀t,t∈a->t.Mg)(L:∀t,t∈b->t.Mg)(h:Gq n a=Gq m b):n=m/\a.map Ty.er=b.map Ty.er:=by
 have J:=C2n n O [];have W:=C2n m L [];rw[h,W]at J;simp only[Ga,Fz]at J;have U:Sep []:=.inl rfl;obtain⟨Z,E⟩:=A4t (B0o U) (B0o U) J.symm;refine⟨Z,?_⟩;simp at E;unfold V0 at E;by_cases V:a=[]
 .grind
 .by_cases I:b=[]
  .grind
  .rw[A6 V,A6 I]at E;simp only[Z2,Qi]at E;exact(C5p (r1:=[]) (r2:=[]) V I (λt ht=>C3a (O t ht)) L E).1
def Wc(l:List (Ty × UInt8)):List (UInt8 × Bool):=l.flatMap λz=>z.1.tk++[(z.2,true)]
theorem D3y:∀{a b:List (Ty × UInt8)},(∀z,z∈a->z.1.Mg/\z.2≠76)->(∀z,z∈b->z.1.Mg/\z.2≠76)->Wc a=Wc b->a.map (λz=>(z.1.er,z.2))=b.map (λz=>(z.1.er,z.2))
 |[],[],_,_,_=>rfl
 |[],y::b,_,_,h=>by simp[Wc]at h
 |x::a,[],_,_,h=>by simp[Wc]at h
 |x::a,y::b,I,E,h=>by
  unfold Wc at h;rw[Zw,Zw,Ga,Ga]at h;obtain⟨U,J⟩:=C3a (I x (by simp)).1 y.1 (E y (by simp)).1 _ _ (.inr ⟨x.2,_,rfl,(I x (by simp)).2⟩) (.inr ⟨y.2,_,rfl,(E y (by simp)).2⟩) h;simp only[Jq,Vi,Z2,Fp,Sn]at J;have O:=D3y (λz L=>I z (by grind)) (λz L=>E z (by grind)) J.2
  grind
def A5q(s:A3):List (Ty × UInt8):=s.A1.map (λf=>(f.bound,66))++(s.params.map (λf=>(f.type,80))++[(s.result,69)])
structure A3.Mc(s:A3):Prop where
 A1:∀f,f∈s.canon.A1->f.bound.Mg
 params:∀f,f∈s.canon.params->f.type.Mg
 result:s.canon.result.Mg
theorem D1q:∀(l:List Ah)(s:A2),(∀f,f∈l->f.bound.Mg)->Fz (Jc l++s)=Wc (l.map λf=>(f.bound,66))++Fz s
 |[],s,_=>by rfl
 |f::l,s,h=>by
  have I:=D1q l s λg E=>h g (by grind);rw[show Jc (f::l)=f.bound.mg++([95,66]++Jc l) by simp[Jc],Ga,A6q (h f (by simp))]
  grind[A7o,Wc]
theorem D0j:∀(l:List Param)(s:A2),(∀f,f∈l->f.type.Mg)->Fz (Ja l++s)=Wc (l.map λf=>(f.type,80))++Fz s
 |[],s,_=>by rfl
 |f::l,s,h=>by
  have I:=D0j l s λg E=>h g (by grind);rw[show Ja (f::l)=f.type.mg++([95,80]++Ja l) by simp[Ja],Ga,A6q (h f (by simp))]
  grind[A7o,Wc]
theorem C6o{s:A3}(h:s.Mc):Fz (Jw s)=Ss s.name++(83,true)::Wc (A5q s.canon):=by
 have e:Jw s=Ew s.name++(95::83::(Jc s.canon.A1++(Ja s.canon.params++(s.canon.result.mg++[95,69])))):=by unfold Jw;simp only[Ga,Jq,Vi]
 rw[e,C7t,A7o (by decide),D1q _ _ h.A1,D0j _ _ h.params,A6q h.result];have:Fz [95,69]=[(69,true)]:=by rw[A7o (by decide)];rfl
 rw[this];simp[A5q,Wc]
theorem G6s{a b:A3}(h:(A5q a).map (λz=>(z.1.er,z.2))=(A5q b).map (λz=>(z.1.er,z.2))) :
  a.A1.map (λf=>f.bound.er)=b.A1.map (λf=>f.bound.er)/\a.params.map (λf=>f.type.er)=b.params.map (λf=>f.type.er)/\a.result.er=b.result.er:=by
 unfold A5q at h;simp at h;have key:∀{α β:Type} {f:α->Ty} {m:UInt8} {x:List α} {y:List α} {r1 r2:List (Ty × UInt8)},(∀z∈r1.head?,z.2≠m)->(∀z∈r2.head?,z.2≠m)->x.map (λa=>(f a,m))++r1=y.map (λa=>(f a,m))++r2->x.map f=y.map f/\r1=r2:=by
  intro α β f m x
  induction x with
  |nil =>
   intro y r1 r2 I L h;cases y with
   |nil=>grind
   |cons y ys =>simp_all
  |cons x xs U =>
   intro y r1 r2 I L h;cases y with
   |nil =>grind
   |cons y ys =>grind
 have E:∀(s:A3),∀z∈((s.params.map λf=>(f.type.er,(80:UInt8)))++[(s.result.er,(69:UInt8))]).head?,z.2≠66:=λs z V=>by grind
 obtain⟨W,J⟩:=key (β:=Unit) (f:=λf:Ah=>f.bound.er) (m:=66) (x:=a.A1) (y:=b.A1) (E a) (E b) h;obtain⟨Z,O⟩:=key (β:=Unit) (f:=λf:Param=>f.type.er) (m:=80) (x:=a.params) (y:=b.params) (by simp) (by simp) J
 grind
theorem D0d{s t:A3}(hs:s.Mc)(ht:t.Mc)(h:Jw s=Jw t):s.name=t.name/\s.canon.A1.map (λf=>f.bound.er)=t.canon.A1.map (λf=>f.bound.er)/\s.canon.params.map (λf=>f.type.er)=t.canon.params.map (λf=>f.type.er)/\s.canon.result.er=t.canon.result.er:=by
 have J:=C6o hs;rw[h,C6o ht]at J;obtain⟨O,L⟩:=A4t (.inr ⟨83,_,rfl⟩) (.inr ⟨83,_,rfl⟩) J.symm;simp at L;have I:∀{s:A3},s.Mc->∀z,z∈A5q s.canon->z.1.Mg/\z.2≠76:=λ{s} hs z hz=>by
  unfold A5q at hz;rcases Bz.1 hz with hz|hz
  .obtain⟨f,E,rfl⟩:=Au.1 hz;exact⟨hs.A1 f E,by simp⟩
  rcases Bz.1 hz with hz|hz
  .obtain⟨f,E,rfl⟩:=Au.1 hz;exact⟨hs.params f E,by simp⟩
  .rw[U0.1 hz];exact⟨hs.result,by simp⟩
 obtain⟨k1,k2,k3⟩:=G6s (D3y (I hs) (I ht) L)
 grind
theorem C5w{s:A3}(hs:s.Mc){n:A2}{l:List Ty}(L:∀t,t∈l->t.Mg):Jw s≠Gq n l:=λh=>by
 have I:=C6o hs;have E:=C2n n L [];rw[Fj,<-h,I]at E;simp only[Ga,Fz,Fj]at E;have J:Sep []:=.inl rfl;obtain⟨_,O⟩:=A4t (.inr ⟨83,_,rfl⟩) (by simpa using B0o (l:=l) J) E
 grind[V0]
theorem H4m{t:Ty}(ht:t.Mg):A4i≠t.mg:=λh=>by
 have E:=A6q ht [];rw[Fj,<-h]at E;have I:Fz A4i=Ss [84,111,112]++[(84,true)]:=by decide
 rw[I]at E;simp only[Fz,Fj]at E;cases ht with
 |loc i p L=>rw[Ty.Ya,A8 ⟨rfl,rfl⟩]at E;grind
 |Pg n a q k1 k2 k3 k4 =>
  rw[Ty.Ya,A6 λh=>B0f k1 h.1]at E;have J:Sep []:=.inl rfl;obtain⟨_,O⟩:=A4t (.inr ⟨84,[],rfl⟩) (by have:=B0o (l:=a) J;rwa [Fj]at this) E
  grind[V0]
end Go.Abs
/- programs compared with themselves; stencil.Program and castingsref23.Program; castingslaw23.sets; the walks of StencilMatchesReference and StencilTypes -/
namespace Go.Abs
open Go Go.Proofs
structure Decl.Lm(d:Decl):Prop where
 A1:d.A1.length<=sm/\∀f,f∈d.A1->f.bound.Lm
 fields:d.fields.length<=sm/\∀f,f∈d.fields->f.type.Lm
 sigs:d.sigs.length<=3*sm/\∀s,s∈d.sigs->s.Lm
 vars:d.vars.length<=sm
 sig:d.sig.Lm
 body:d.body.Lm
theorem E5y:Io.Lm:=⟨by simp[Io],by simp[Io],.mk _ _ _ (by simp) (by simp)⟩
theorem C9s:Uu.Lm:=D1e.lm
theorem D0z:A6m.Lm:=.mk _ _ _ (by simp) (by simp)
theorem D8e(k:Int)(nm:A2)(fs:List Param)(ss:List A3)(I:fs.length<=sm/\∀f,f∈fs->f.type.Lm)(E:ss.length<=3*sm/\∀s,s∈ss->s.Lm):(headD k nm fs ss).Lm :=
 ⟨⟨by simp[headD],by simp[headD]⟩,I,E,by simp[headD],E5y,C9s⟩
theorem D5q(s:A3):(Hd s).Lm:=⟨by simp[Hd],by simp[Hd],D0z⟩
theorem G6v:∀{e:Ex},e.Sm->(D6 e).Lm:=by
 intro e
 induction e using Ex.induct with|_ e J=>?_
 intro h;rw[Za];refine .mk _ _ _ _ _ _ (.mk _ _ _ (by simp) (by simp)) (by simp) (by simp) (by rw[Bc];exact h.kids.1) λx I=>?_;obtain⟨y,E,rfl⟩:=Au.1 I;exact J y E (h.kids.2 y E)
theorem F0g{p:Prog}(hp:p.count<=600)(hr:p.right=true){s:An}(h:s.Fd){x:Ty}(hx:x∈s.types):(H2 p s.calls x).length<=3*sm/\∀d,d∈H2 p s.calls x->d.Lm:=by
 have E:=Prog.X8 p hp;have a1:=Prog.To p hp;have a0:=h.sm.types.2 x hx;have a3:=h.types x hx;obtain⟨ab,U⟩:=C8b (p:=p) h hx;have aa:=Wi E.sm [] x;have V:=A5h E.sm a1 hr a0 a3.args;have a4:(Bx p x).length<=sm:=B2x E.sm x;have Z:=Ai3 (Ir D6 p) (Wk p s.calls x).calls;have a7:=Ai3 (Hk p) (Wk p s.calls x).calls;unfold H2 B9h B7r B5p;generalize(Wk p s.calls x).calls=C at*;refine⟨?_,λd hd=>?_⟩
 .rw[B6];have hz:(1:Nat)<=sm:=by decide
  split
  .rename_i a8;rw[A6 λhh=>by have:=(Ps a8).1;have:=(Ps hh).1;omega];simp only[Bg,B6,Bc,Ca];omega
  .split <;> simp <;> omega
 rcases Bz.1 hd with hd|hd
 .split at hd
  .rcases B1.1 hd with rfl|hd
   .refine D8e _ _ _ _ ⟨by rw[J9,Bc];exact a4,λf hf=>?_⟩ ⟨by simp,by simp⟩;obtain⟨y,_,rfl⟩:=Au.1 hf;exact C6m _
   rcases Bz.1 hd with hd|hd
   .obtain⟨c,hc,I⟩:=Ns.1 hd;obtain⟨O,a2⟩:=U c hc;unfold Ir at I;split at I
    .cases I
    .rename_i m a6;split at I
     .cases I
     .rename_i g hg;cases I;obtain⟨a',a9,_,_⟩:=A2n a6;obtain⟨_,a5,_⟩:=C0i hp E.sm hr a' a9 a2;have L:=D3m (l:=C7 p [] c.on) (c:=c) (λy W=>by rw[O]at W;exact(V y W).params.1) hg;refine⟨⟨by simp,by simp⟩,⟨by simp,by simp⟩,⟨by simp,by simp⟩,by simp,⟨⟨by simp,by simp⟩,⟨?_,λf hf=>?_⟩,L.result⟩,G6v a5⟩
      .simp only[Gm,Aq9];have:=L.params.1;omega
      .obtain⟨i,J⟩:=Qu hf;simp only[Gm,As2]at J;cases ha:g.params[i]? with
       |none=>rw[ha]at J;simp at J
       |some a =>
        cases hb:m.sig.params[i]? with
        |none=>rw[ha,hb]at J;simp at J
        |some b =>rw[ha,hb]at J;simp only[B5]at J;rw[<-J];exact L.params.2 a (C6 ha)
   .obtain⟨s',_,rfl⟩:=Au.1 hd;exact⟨⟨by simp[Jy],by simp[Jy]⟩,⟨by simp[Jy],by simp[Jy]⟩,⟨by simp[Jy],by simp[Jy]⟩,by simp[Jy],D5q _,.mk _ _ _ _ _ _ D0z (by simp) (by simp) (by simp) (by simp)⟩
  .simp at hd
 .split at hd
  .rw[U0.1 hd];refine D8e _ _ _ _ ⟨by simp,by simp⟩ ⟨?_,λg hg=>?_⟩
   .rw[B6,Bc];omega
   .rcases Bz.1 hg with hg|hg
    .obtain⟨c,hc,I⟩:=Ns.1 hg;obtain⟨O,_⟩:=U c hc;exact D3m (l:=C7 p [] c.on) (c:=c) (λy W=>by rw[O]at W;exact(V y W).params.1) I
    .obtain⟨s',_,rfl⟩:=Au.1 hg;exact D5q _
  .simp at hd
theorem E7f{f:Ty->List Decl}:∀l:List Ty,(∀x,x∈l->(f x).length<=3*sm)->(l.flatMap f).length<=l.length*(3*sm)
 |[],_=>by simp
 |x::l,h=>by have J:=h x (by simp);have I:=E7f l λy E=>h y (by simp[E]);rw[Zw,B6,Bg,Hw];omega
def Hi(p:Prog)(s:An):Prog:=⟨M9::s.types.flatMap (H2 p s.calls),D6 p.main⟩
theorem F4r{p:Prog}(I:p.count<=600)(hr:p.right=true){s:An}(h:s.Fd):(M9::s.types.flatMap (H2 p s.calls)).length<=1000000000:=by
 have J:=E7f s.types λx E=>(F0g I hr h E).1;have L:s.types.length*(3*sm)<=60*(3*sm):=Hp _ (by have:=h.len;omega);rw[Bg];have O:60*(3*sm)=180000000:=by decide
 omega
theorem D8m{p:Prog}(E:p.count<=600)(hs:p.Sm)(hr:p.right=true):p.main.Nq 240000/\p.main.Rs:=by unfold Prog.right at hr;simp only[Bb]at hr;exact⟨(Ex.B6j hs.main hr.2).nq (Prog.A7i p E).2,Ex.D5p hr.2⟩
abbrev A2r:List Nat:=[0,1,2,3,4,5,6,8,17]
theorem G9f(p:Prog)(O:p.count<=600)(hr:p.right=true){s:An}(h:s.Fd):Aa Tryz.prog 8 [Ct p,Jh s] (Ct (Hi p s)):=by
 have E:=Prog.X8 p O;obtain⟨hq,U⟩:=D8m O E.sm hr;have hX:=E5m p.main (E3z (B:=240000) (by decide) E.sm.main hq U);have W:=F4r O hr h;have a0:=h.sm.types.1;unfold Hi;show Aa Tryz.prog 8 [Ct p,Jh s] (.agg [.d (.slice (C1 (M9::s.types.flatMap (H2 p s.calls)))),.d (.int .i64 (D6 p.main).kind),.d (.str (D6 p.main).name),.d (.str (D6 p.main).type.name),.d (.slice (Ax (D6 p.main).type.args)),.d (.int .i64 (D6 p.main).type.pos),.d (.slice (Ax (D6 p.main).targs)),.d (.slice (Eb (D6 p.main).kids)),.d (.int .i64 (D6 p.main).pos)]);generalize D6 p.main=e at*;refine cB Tryz.func8 ?_;refine sR A2r ?_
 (refine A0.D7 A2r [8] (by decide +kernel) λK z=>?_;refine ev ?_;refine cc hX ?_;apply z;clear z K)
 refine kR A2r λK1 u1=>?_;refine A0.bb (A0.ii s.types (X:=Unit) (λj _=>[(2,.box 2 0),(3,.box 3 0),(4,.box 4 0),(5,.box 5 0),(6,A5 j)])
  (λj _=>[(2,.cells ((Aj p).map .d)),(3,.cells (J1 s)),(4,.cells [.d .nil,.d (.int .i64 0),.d (.str []),.d (.str []),.d .nil,.d (.int .i64 0),.d .nil,.d .nil,.d (.int .i64 0)]),(5,.cells (.acc 8::mnS e)),(8,.rows 23 (C1 (M9::(s.types.take j).flatMap (H2 p s.calls))))])
  (λ_ _=>True) () trivial sS ⟨rfl,rfl,rfl,rfl,rfl,trivial⟩ ?_ ?_)
 rotate_left
 .intro j _ x L J dp tk V _;have Z:=(Az.1 L).1;have hT:=G0e p O hr h x J;have e2:C1 (M9::(s.types.take (j+1)).flatMap (H2 p s.calls))=C1 (M9::(s.types.take j).flatMap (H2 p s.calls))++C1 (H2 p s.calls x):=by
   rw[J0 Z,(Az.1 L).2,Ao9];simp[C1]
  have e3:(C1 (M9::(s.types.take j).flatMap (H2 p s.calls))).length+(C1 (H2 p s.calls x)).length<=1000000000:=by
   have h1:s.types.flatMap (H2 p s.calls)=(s.types.take (j+1)).flatMap (H2 p s.calls)++(s.types.drop (j+1)).flatMap (H2 p s.calls):=by rw[<-Ao9,Uz]
   have h2:(s.types.take (j+1)).flatMap (H2 p s.calls)=(s.types.take j).flatMap (H2 p s.calls)++H2 p s.calls x:=by rw[J0 Z,(Az.1 L).2,Ao9];simp
   rw[h1,h2]at W;simp only[Bg,B6]at W;rw[C9b,C9b,Bg];omega
  have e4:=C7x (H2 p s.calls x);rw[e2];generalize C1 (M9::(s.types.take j).flatMap (H2 p s.calls))=PR at*;generalize C1 (H2 p s.calls x)=DR at*;refine Ai V A2r λI u2=>?_;refine gI u2 ?_;clear u2 I;refine sK λI u2=>A0.bb ?_
  (refine lG A2r [] 10 [] λK z=>?_;refine ev ?_;refine ci (Et L) ?_;refine cc hT ?_;refine⟨e4,by unfold lim;omega,?_⟩;(try refine ev ?_);apply z;clear z K;try simp only[A4,Ac])
  refine u2 _ _ ?_;clear u2 I;refine lT A2r ?_;exact⟨(),trivial,sS,by simp[ble,A7,Aj]⟩
 intro _ _;rw[Ci];refine Ai B3 A2r λI u2=>?_;refine A0.ss rfl ?_;simp only[A4,Ac,Af];refine u1 _ _ ?_;clear u2 I u1 K1
 (refine A0.Lw 8 rfl (wk [(4,.box 4 0),(5,.box 5 0)] [(4,.cells [.d .nil,.d (.int .i64 0),.d (.str []),.d (.str []),.d .nil,.d (.int .i64 0),.d .nil,.d .nil,.d (.int .i64 0)]),(5,.cells (.d (.slice (C1 (M9::s.types.flatMap (H2 p s.calls))))::mnS e))] ?_))
 refine sR A2r ?_;exact aR
end Go.Abs
/- what can be looked up in the program of an instance set -/
namespace Go.Abs
open Go
structure T6(p:Prog)(s:An):Prop where
 Ig:Typed p
 Xc:p.count<=600
 fd:s.Fd
 Bf:Clo p s
 gd:s.Gd p
theorem T6.of{p:Prog}(E:p.count<=600)(hr:p.right=true)(I:(A4y p true).bad=false)(h:(Km p).2=true):T6 p (Km p).1 :=
 ⟨.of hr I,E,E9h (Prog.X8 p E) (Prog.To p E) hr h,G1x h,G0h (.of hr I)⟩
theorem C1x{f:Ty->List Decl}{P:Decl->Bool}:∀(I:List Ty) {x:Ty} {E:List Ty},(∀y,y∈I->∀d,d∈f y->P d=false)->((I++x::E).flatMap f).find? P=((f x).find? P).or ((E.flatMap f).find? P)
 |[],x,E,_=>by rw[Vi,Zw,List.find?_append]
 |y::I,x,E,h=>by
  rw[Jq,Zw,List.find?_append,C1x I λz J=>h z (by simp[J])];have:(f y).find? P=none:=List.find?_eq_none.2 λd hd=>by rw[h y (by simp) d hd];simp
  rw[this];rfl
theorem H2w{f:Ty->List Decl}{P:Decl->Bool}(l:List Ty)(h:∀y,y∈l->∀d,d∈f y->P d=false):(l.flatMap f).find? P=none :=
 List.find?_eq_none.2 λd hd=>by obtain⟨y,E,hd⟩:=Ak8.1 hd;rw[h y E d hd];simp
abbrev Lj(p:Prog)(s:An)(x:Ty):List B9:=(Wk p s.calls x).calls
def Vf(p:Prog)(s:An)(x:Ty):List A3:=(Lj p s x).filterMap (Hk p)++(C7 p [] x).map Hd
def K9(p:Prog)(s:An)(x:Ty):Decl:=if Bh p x 1=true then headD 1 x.mg (J9 (Bx p x)) []else headD 2 x.mg [] (Vf p s x)
def Q1(p:Prog)(s:An)(x:Ty):List Decl:=if Bh p x 1=true then(Lj p s x).filterMap (Ir D6 p)++(C7 p [] x).map (Jy x.mg)else[]
theorem B5k{p:Prog}{x:Ty}(h:Bh p x 1=true):¬Bh p x 2=true:=λE=>by have:=(Ps h).1;have:=(Ps E).1;omega
theorem A5j{p:Prog}{s:An}{x:Ty}(h:Bk p [] x=none):H2 p s.calls x=K9 p s x::Q1 p s x:=by
 unfold H2 B9h B7r B5p K9 Q1 Vf;rcases B8j h with E|h2
 .rw[A8 E,A8 E,A8 E,A6 (B5k E),Fj]
 .have E:¬Bh p x 1=true:=λI=>B5k I h2;rw[A6 E,A6 E,A6 E,A8 h2];rfl
section
variable {p:Prog} {s:An} (h:T6 p s)
include h
theorem T6.sm:p.Sm:=(Prog.X8 p h.Xc).sm
theorem T6.tl:∀d,d∈p.decls->d.Tl:=Prog.To p h.Xc
theorem T6.mg{t:Ty}(ht:t∈s.types):t.Mg:=(h.fd.types t ht).mg
theorem T6.wf{t:Ty}(ht:t∈s.types):Bk p [] t=none:=h.gd.types t ht
theorem E8w{x y:Ty}(O:x∈s.types)(U:y∈s.types)(L:x.er=y.er):x=y:=by
 obtain⟨i,E,rfl⟩:=List.getElem_of_mem O;obtain⟨j,J,rfl⟩:=List.getElem_of_mem U;have I:=Am4.1 h.Bf.types;rcases Ar7 i j with hlt|rfl|hlt
 .have:=I i j E J hlt;have:=(Tn _ _).2 L;omega
 .rfl
 .have:=I j i J E hlt;have:=(Tn _ _).2 L.symm;omega
theorem E1t{x y:Ty}(E:x∈s.types)(I:y∈s.types)(J:x.mg=y.mg):x=y:=E8w h E I (E7b (h.mg E) (h.mg I) J)
theorem D5h{x:Ty}(L:x∈s.types):∃I J,s.types=I++x::J/\(∀y,y∈I->y.mg≠x.mg)/\∀y,y∈J->y.mg≠x.mg:=by
 obtain⟨I,J,e⟩:=List.append_of_mem L;have U:=h.Bf.types;rw[e]at U;obtain⟨p1,W,Z⟩:=Ao2.1 U;refine⟨I,J,e,λy E O=>?_,λy E O=>?_⟩
 .have V:=Z y E x (by simp);have:=E1t h (by rw[e];simp[E]) L O;subst this;have:=(Tn y y).2 rfl;omega
 .have V:=(Zo.1 W).1 y E;have:=E1t h (by rw[e];simp[E]) L O;subst this;have:=(Tn y y).2 rfl;omega
theorem Th{x:Ty}(E:x∈s.types):∀c,c∈Lj p s x->c.on=x/\c.Ni:=(C8b (p:=p) h.fd E).2
theorem A2x{x:Ty}(I:x∈s.types){d:Decl}(hd:d∈Q1 p s x):d.name=x.mg/\d.kind=3/\d.vars=[]/\d.A1=[]/\d.sig.A1=[]:=by
 unfold Q1 at hd;split at hd
 .rcases Bz.1 hd with hd|hd
  .obtain⟨c,J,E⟩:=Ns.1 hd;unfold Ir at E;split at E
   .cases E
   .split at E
    .cases E
    .cases E;exact⟨by simp only;rw[(Th h I c J).1],rfl,rfl,rfl,rfl⟩
  .obtain⟨g,_,rfl⟩:=Au.1 hd;exact⟨rfl,rfl,rfl,rfl,rfl⟩
 .simp at hd
omit h in
theorem C4v(x:Ty):(K9 p s x).name=x.mg/\((K9 p s x).kind=1\/(K9 p s x).kind=2):=by
 unfold K9;split
 .exact⟨rfl,.inl rfl⟩
 .exact⟨rfl,.inr rfl⟩
theorem D6r{x:Ty}(E:x∈s.types){d:Decl}(hd:d∈H2 p s.calls x):d.name=x.mg:=by
 rw[A5j (h.wf E)]at hd;rcases B1.1 hd with rfl|hd
 .exact(C4v (p:=p) (s:=s) x).1
 .exact(A2x h E hd).1
theorem C9a{x:Ty}(E:x∈s.types):F7 (Hi p s) x.mg=some (K9 p s x):=by
 obtain⟨L,O,e,J,_⟩:=D5h h E;unfold F7 Hi;simp only;have ht:M9.Fv x.mg=false:=by have:A4i≠x.mg:=H4m (h.mg E);unfold Decl.Fv;show(_ && decide (A4i=x.mg))=false;rw[C9 this,Rc]
 rw[An2,ht,e,C1x L λy I d hd=>?_,A5j (h.wf E),An2]
 .have:(K9 p s x).Fv x.mg=true:=by
   unfold Decl.Fv;obtain⟨k1,k2⟩:=C4v (p:=p) (s:=s) x;simp only[k1,Va,Aq1,Vp,Dp];exact k2
  rw[this];rfl
 .unfold Decl.Fv;rw[D6r h (by rw[e];simp[I]) hd,C9 (J y I),Rc]
theorem F3m{x:Ty}(E:x∈s.types):kindOf (Hi p s) x.mg=if Bh p x 1=true then 1 else 2:=by have:=C9a h E;unfold F7 at this;unfold kindOf;rw[this];show(K9 p s x).kind=_;unfold K9;split <;> rfl
theorem H5s{x:Ty}(E:x∈s.types):Em (Hi p s) x.mg=[]:=by unfold Em;rw[C9a h E];show(K9 p s x).A1=[];unfold K9;split <;> rfl
theorem A8s{x:Ty}(I:x∈s.types)(a:Int){k:Int}(J:k=1\/k=2):Bh (Hi p s) (.mk x.mg [] a) k=Bh p x k:=by
 have L:Bh (Hi p s) (.mk x.mg [] a) k=decide ((if Bh p x 1=true then(1:Int)else 2)=k):=by unfold Bh;show(decide (kindOf (Hi p s) x.mg=k) && decide ((Em (Hi p s) x.mg).length=([]:List Ty).length))=_;rw[F3m h I,H5s h I];simp[Bh]
 rw[L];by_cases E:Bh p x 1=true
 .rw[A8 E];rcases J with rfl|rfl
  .rw[E];rfl
  .have:=B5k E;simp only[As6]at this;rw[this];rfl
 .rw[A6 E];have O:=(B8j (h.wf I)).resolve_left E;rcases J with rfl|rfl
  .simp only[As6]at E;rw[E];rfl
  .rw[O];rfl
theorem G4n{x:Ty}(J:x∈s.types)(m:A2):(Hi p s).decls.find? (Fk x.mg m)=(Q1 p s x).find? (Fk x.mg m):=by
 obtain⟨U,W,e,O,L⟩:=D5h h J;have I:∀y,y∈s.types->y.mg≠x.mg->∀d,d∈H2 p s.calls y->Fk x.mg m d=false:=λy E Z d hd=>by unfold Fk;rw[D6r h E hd,C9 Z];simp
 unfold Hi;simp only;have ht:Fk x.mg m M9=false:=by unfold Fk;rw[show M9.kind=1 from rfl];simp
 rw[An2,ht,e,C1x U λy E d hd=>I y (by rw[e];simp[E]) (O y E) d hd,A5j (h.wf J),An2];have V:Fk x.mg m (K9 p s x)=false:=by unfold Fk;have:=(C4v (p:=p) (s:=s) x).2;rw[C9 (by omega)];simp
 rw[V,H2w W λy E d hd=>I y (by rw[e];simp[E]) (L y E) d hd];simp
theorem E1g{x:Ty}(E:x∈s.types)(J:Bh p x 1=true)(a:Int)(m:A2):Jr (Hi p s) (.mk x.mg [] a) m=(Q1 p s x).find? (Fk x.mg m):=by
 unfold Jr;rw[A8 (by rw[A8s h E a (.inl rfl)];exact J)];show(match(Hi p s).decls.find? (Fk x.mg m)with
  |some d=>if d.vars.length=([]:List Ty).length then some d else none
  |none=>none)=_
 rw[G4n h E];cases I:(Q1 p s x).find? (Fk x.mg m)with
 |none=>rfl
 |some d =>have:=A2x h E (Am5 I);simp[this.2.2.1]
theorem Xr{x:Ty}(hx:x∈s.types){c:B9}(hc:c∈Lj p s x):∃g,g∈Cw p [] x/\g.name=c.name/\g.A1.length=c.targs.length/\H5 p [] g.A1 c.targs<0/\(∀t,t∈c.targs->Bk p [] t=none)/\Hk p c=some (E1 c g)/\∃E,E∈s.calls/\Cv p [] x E.on=true/\c=⟨x,E.name,E.targs⟩/\Mu p x E=some g:=by
 have hl:=h.fd.len;have hm:c∈Kk p s.calls x:=by obtain⟨_,b2,_⟩:=B4j (Kk p s.calls x) ⟨[],[],false⟩ (by simp[Sr]) (by have:=B8a p s.calls x;simp only[Ca];omega);exact(b2 c hc).elim id λh=>by simp at h
 obtain⟨E,Z,rfl⟩:=Au.1 hm;obtain⟨Z,hi⟩:=Jz.1 Z;have U:=h.gd.calls E Z;obtain⟨g0,m0,n0,l0,b0⟩:=U.sig;obtain⟨g,mg,eg⟩:=A7v hi g0 m0;obtain⟨e1,e2,_⟩:=A1m eg;have hn:g.name=E.name:=e1.trans n0;have I:g.A1.length=E.targs.length:=by rw[<-l0];have:=Gi List.length e2;simpa using this
 have V:∃k,Fb (C7 p [] x) E.name=(k:Nat)/\(C7 p [] x)[k]?=some g:=by
  have J:=Nt.2 mg;obtain⟨k,hk⟩:=Qu J;unfold Fb;rcases N4 (λs:A3=>decide (s.name=E.name)) (C7 p [] x)with⟨_,W⟩|⟨j,y,h1,W,h3⟩
  .have:=W g J;simp[hn]at this
  .refine⟨j,h1,?_⟩;have:y=g:=A2k (B9w p [] x) (C6 W) J (by simp at h3;rw[h3,hn]);rw[<-this];exact W
 obtain⟨k,L,O⟩:=V;have a0:Mu p x E=some g:=by unfold Mu;rw[L,A6 (by omega),Je,O];simp only;rw[A8 ⟨I,hi⟩]
 refine⟨g,mg,hn,I,E7z eg b0,U.targs,?_,E,Z,hi,rfl,a0⟩;unfold Hk B0s;simp only;rw[L,A6 (by omega),Je,O,Dz,A8 I]
theorem E8x{x:Ty}{E:B9}(Z:E∈s.calls)(O:Cv p [] x E.on=true):∃c,c∈Lj p s x/\c.on=x/\c.name=E.name/\c.targs.map Ty.er=E.targs.map Ty.er:=by
 have hl:=h.fd.len;have J:(⟨x,E.name,E.targs⟩:B9)∈Kk p s.calls x:=Au.2 ⟨E,Jz.2 ⟨Z,O⟩,rfl⟩;obtain⟨_,L,_,V⟩:=B4j (Kk p s.calls x) ⟨[],[],false⟩ (by simp[Sr]) (by have:=B8a p s.calls x;simp only[Ca];omega);obtain⟨c,I,W⟩:=V _ J;obtain⟨_,U,e3⟩:=D1s W;refine⟨c,I,?_,U.symm,e3.symm⟩;have:c∈Kk p s.calls x:=(L c I).elim id λh=>by simp at h
 exact D0r c this
theorem G6a(x:Ty):Sr (Lj p s x):=by have E:=h.fd.len;exact(B4j (Kk p s.calls x) ⟨[],[],false⟩ (by simp[Sr]) (by have:=B8a p s.calls x;simp only[Ca];omega)).1
theorem A3t{x:Ty}(J:x∈s.types){g:A3}(L:g∈C7 p [] x):g.Mc:=by have I:=(A5h h.sm h.tl h.Ig.right (h.fd.sm.types.2 x J) (h.fd.types x J).args g L).canon;exact⟨λf E=>(I.A1.2 f E).mg,λf E=>(I.params.2 f E).mg,I.result.mg⟩
theorem A0i{x:Ty}(I:x∈s.types)(O:Bh p x 1=true){c:B9}(J:c∈Lj p s x):∃d g,Jr p x c.name=some d/\g=d.sig.canon.subst d.vars x.args/\Hk p c=some (E1 c g)/\g.A1.length=c.targs.length /\
  Ir D6 p c=some ⟨3,x.mg,[],[],[],d.recv,[],⟨(E1 c g).name,[],Gm (E1 c g).params d.sig.params,(E1 c g).result,0⟩,D6 (My d x c),0⟩:=by
 obtain⟨g,V,U,Z,_,_,L,_⟩:=Xr h I J;obtain⟨E,_⟩:=Th h I c J;obtain⟨d,_,_,_,_,W,hd⟩:=A5p O V;rw[U]at hd;refine⟨d,g,hd,W,L,Z,?_⟩;unfold Ir;rw[E,hd,L]
def Mz(p:Prog)(s:An)(x:Ty):List A3:=if Bh p x 1=true then(Q1 p s x).map (·.sig)else Vf p s x
omit h in
theorem G0s(ps E:List Param)(J:ps.length<=E.length):(Gm ps E).map (·.type)=ps.map (·.type):=by
 apply Ld;intro i;simp only[Gm,Df,As2];cases I:ps[i]? with
 |none=>rfl
 |some a =>
  have:i<E.length:=by have:=(Az.1 I).1;omega
  rw[Bi this];rfl
theorem A6o{x:Ty}(U:x∈s.types){w:A3}:w∈Mz p s x↔(∃c g,c∈Lj p s x/\Hk p c=some (E1 c g)/\g∈Cw p [] x/\g.name=c.name/\(if Bh p x 1=true then ∃d,Jr p x c.name=some d/\w=⟨(E1 c g).name,[],Gm (E1 c g).params d.sig.params,(E1 c g).result,0⟩else w=E1 c g))\/∃g,g∈C7 p [] x/\w=Hd g:=by
 unfold Mz;by_cases J:Bh p x 1=true
 .rw[A8 J];simp only[A8 J];unfold Q1;rw[A8 J,G0,Bz];constructor
  .rintro(hw|hw)
   .obtain⟨d,hd,rfl⟩:=Au.1 hw;obtain⟨c,E,hm⟩:=Ns.1 hd;obtain⟨d',g,e1,e2,e3,e4,V⟩:=A0i h U J E;rw[hm]at V;cases V;obtain⟨g',W,Z,_,_,_,L,_⟩:=Xr h U E;refine .inl ⟨c,g',E,L,W,Z,d',e1,?_⟩;rw[e3]at L;rw[X9 L]
   .obtain⟨d,hd,rfl⟩:=Au.1 hw;obtain⟨g,I,rfl⟩:=Au.1 hd;exact .inr ⟨g,I,rfl⟩
  .rintro(⟨c,g,E,O,_,_,d,hd,rfl⟩|⟨g,I,rfl⟩)
   .obtain⟨d',g',e1,_,e3,_,V⟩:=A0i h U J E;rw[e1]at hd;cases hd;rw[e3]at O;refine .inl (Au.2 ⟨_,Ns.2 ⟨c,E,V⟩,?_⟩);simp only;rw[X9 O]
   .exact .inr (Au.2 ⟨Jy x.mg g,Au.2 ⟨g,I,rfl⟩,rfl⟩)
 .rw[A6 J];simp only[A6 J];unfold Vf;rw[Bz];constructor
  .rintro(hw|hw)
   .obtain⟨c,E,O⟩:=Ns.1 hw;obtain⟨g,W,Z,_,_,_,L,_⟩:=Xr h U E;refine .inl ⟨c,g,E,L,W,Z,?_⟩;rw[O]at L;exact X9 L
   .obtain⟨g,I,rfl⟩:=Au.1 hw;exact .inr ⟨g,I,rfl⟩
  .rintro(⟨c,g,E,O,_,_,rfl⟩|⟨g,I,rfl⟩)
   .exact .inl (Ns.2 ⟨c,E,O⟩)
   .exact .inr (Au.2 ⟨g,I,rfl⟩)
theorem C4x{x:Ty}(I:x∈s.types){w:A3}(J:w∈Mz p s x):w.A1=[]:=by
 rcases(A6o h I).1 J with⟨c,g,_,_,_,_,E⟩|⟨g,_,rfl⟩
 .split at E
  .obtain⟨d,_,rfl⟩:=E;rfl
  .rw[E];rfl
 .rfl
end
theorem C5u{α β:Type}{f:α->Option β}{R:α->α->Prop}{S:β->β->Prop}(E:∀a b x y,R a b->f a=some x->f b=some y->S x y):∀{l:List α},l.Pairwise R->(l.filterMap f).Pairwise S
 |[],_=>by simp
 |a::l,U=>by
  obtain⟨O,V⟩:=Zo.1 U;have J:=C5u E V;cases I:f a with
  |none=>rw[List.filterMap_cons_none I];exact J
  |some x =>rw[List.filterMap_cons_some I];refine Zo.2 ⟨λy Z=>?_,J⟩;obtain⟨b,W,L⟩:=Ns.1 Z;exact E a b x y (O b W) I L
section
variable {p:Prog} {s:An} (h:T6 p s)
include h
theorem D6g{x:Ty}(I:x∈s.types):(Lj p s x).Pairwise λa b=>Gq a.name a.targs≠Gq b.name b.targs:=by
 have E:=G6a h x;unfold Sr at E;refine List.Pairwise.imp_of_mem ?_ E;intro a b ha hb J W;obtain⟨Z,a2⟩:=Th h I a ha;obtain⟨b1,L⟩:=Th h I b hb;obtain⟨e1,V⟩:=D6z (λt ht=>(a2.targs t ht).mg) (λt ht=>(L.targs t ht).mg) W;have:Dn a b=0:=by
  have e3:E6 a.on b.on=0:=by rw[Z,b1];exact(Tn x x).2 rfl
  have O:Bt a.name b.name=0:=Se.2 e1;have U:E6 (.mk [] a.targs 0) (.mk [] b.targs 0)=0:=(Tn _ _).2 (by rw[Ht,Ht];simp only[Ty.name,Ty.args];rw[V]);unfold Dn;rw[A8 e3,A8 O,U]
 omega
theorem G0z{x:Ty}(J:x∈s.types):(C7 p [] x).Pairwise λa b=>Jw a≠Jw b:=by have I:=B9w p [] x;unfold List.Nodup at I;rw[List.pairwise_map]at I;refine List.Pairwise.imp_of_mem ?_ I;intro a b U O E L;exact E (D0d (A3t h J U) (A3t h J O) L).1
theorem H0p{x:Ty}(I:x∈s.types):((Mz p s x).map (·.name)).Nodup:=by
 have key:∀l:List A3,(l.Pairwise λa b=>a.name≠b.name)->(∀w,w∈l->∃c,c∈Lj p s x/\w.name=Gq c.name c.targs)->((l++(C7 p [] x).map Hd).map (·.name)).Nodup:=by
  intro l hl U;unfold List.Nodup;rw[List.pairwise_map,Ao2];refine⟨hl,?_,λa L b J he=>?_⟩
  .rw[List.pairwise_map];exact G0z h I
  .obtain⟨c,a0,hn⟩:=U a L;obtain⟨g,hg,rfl⟩:=Au.1 J;refine C5w (A3t h I hg) (n:=c.name) (l:=c.targs) (λt ht=>((Th h I c a0).2.targs t ht).mg) ?_;rw[<-hn];exact he.symm
 unfold Mz;by_cases V:Bh p x 1=true
 .rw[A8 V];unfold Q1;rw[A8 V,G0,Ff];have e:((λd:Decl=>d.sig) ∘ Jy x.mg)=Hd:=rfl;rw[e];refine key _ ?_ λw hw=>?_
  .rw[List.pairwise_map];refine C5u (R:=λa b=>(a∈Lj p s x/\b∈Lj p s x)/\Gq a.name a.targs≠Gq b.name b.targs) (λa b x' y' E L J=>?_) (List.Pairwise.imp_of_mem (λL J Z=>⟨⟨L,J⟩,Z⟩) (D6g h I));obtain⟨_,_,_,_,_,_,O⟩:=A0i h I V E.1.1;obtain⟨_,_,_,_,_,_,f5⟩:=A0i h I V E.1.2;rw[O]at L;rw[f5]at J;cases L;cases J;exact E.2
  .obtain⟨d,hd,rfl⟩:=Au.1 hw;obtain⟨c,U,W⟩:=Ns.1 hd;obtain⟨_,_,_,_,_,_,O⟩:=A0i h I V U;rw[W]at O;cases O;exact⟨c,U,rfl⟩
 .rw[A6 V];unfold Vf;refine key _ ?_ λw hw=>?_
  .refine C5u (R:=λa b=>(a∈Lj p s x/\b∈Lj p s x)/\Gq a.name a.targs≠Gq b.name b.targs) (λa b x' y' E L J=>?_) (List.Pairwise.imp_of_mem (λL J Z=>⟨⟨L,J⟩,Z⟩) (D6g h I));obtain⟨_,_,_,_,_,_,O,_⟩:=Xr h I E.1.1;obtain⟨_,_,_,_,_,_,f5,_⟩:=Xr h I E.1.2;rw[O]at L;rw[f5]at J;cases L;cases J;exact E.2
  .obtain⟨c,U,W⟩:=Ns.1 hw;obtain⟨_,_,_,_,_,_,O,_⟩:=Xr h I U;rw[W]at O;cases O;exact⟨c,U,rfl⟩
end
end Go.Abs
/- types implement each other in the program of an instance set exactly if they do in the program -/
namespace Go.Abs
open Go
def pE(g:A3):A3:=⟨g.name,[],g.params.map (λf=>⟨[],f.type.er,0⟩),g.result.er,0⟩
abbrev plS(g:A3):A3:=g.canon.subst [] []
theorem E8d{g:A3}(h:g.A1=[]):g.canon=⟨g.name,[],g.params.map (λf=>⟨[],f.type,f.pos⟩),g.result,g.pos⟩:=by
 unfold A3.canon Ha It;rw[h];have e:D8 ([]:List Ah).length=[]:=rfl;have I:Ad ([]:List Ah)=[]:=rfl;rw[e,I];simp only[A2w,List.mapIdx_nil]
 congr 1
 apply Ld;intro i;rw[Sd,Df];cases E:g.params[i]? with
 |none=>rfl
 |some f =>have:=(Az.1 E).1;simp only[Ez,A8 this]
theorem G6t{g:A3}(h:g.A1=[]):plS g=⟨g.name,[],g.params.map (λf=>⟨[],f.type,f.pos⟩),g.result,g.pos⟩:=by
 unfold plS;rw[E8d h];simp only[A3.subst,G3,Ff,A2w]
 congr 1
 exact Ie λf _=>by simp[Param.subst,A2w]
theorem D5u{g:A3}(h:g.A1=[]):(plS g).canon.er=pE g/\(plS g).er=pE g:=by have e:=G6t h;rw[E8d (g:=plS g) (by rw[e]),e];simp only[A3.er,pE,Ff,G3];exact⟨rfl,rfl⟩
theorem G6n{P:Prog}{x:Ty}(J:Bh P x 1=true){w:A3}:w∈Cw P [] x↔∃d,Jr P x d.sig.name=some d/\w=d.sig.canon.subst d.vars x.args:=by
 constructor
 .intro hw;obtain⟨d,_,_,_,_,O,hd⟩:=A5p J hw;refine⟨d,?_,O⟩;rw[O]at hd;exact hd
 .rintro⟨d,hd,rfl⟩;have h2:¬Bh P x 2=true:=B5k J;unfold Cw;rw[A7t];simp only[Xa,Sk,I0,Fx];rw[A6 h2];obtain⟨_,V,_,a0⟩:=A2n hd;rcases C0w P x d.sig.name with⟨_,I⟩|⟨j,W,Z,L,I⟩
  .rw[I]at hd;cases hd
  rw[hd]at I;cases I;have E:d.name=x.name:=by
   unfold Jr at hd;rw[A8 J]at hd;split at hd
   .rename_i W U;split at hd
    .cases hd;have:=At2 U;unfold Fk at this;simp only[Bb,Dp]at this;exact this.1.2
    .cases hd
   .cases hd
  unfold Gk;refine Au.2 ⟨(d,j),Jz.2 ⟨?_,?_⟩,rfl⟩
  .rw[Ci];exact List.mem_zipIdx_iff_getElem?.2 L
  .unfold Ii;simp only[V,E,Z,Va,Aq1]
theorem G7b{v:List A2}{a:List Ty}{l:List A3}(Z:(l.map (·.name)).Nodup){w:A3}:w∈Hn v a l l.length↔∃y,y∈l/\w=y.canon.subst v a:=by
 unfold Hn;rw[Ci];constructor
 .intro hw;obtain⟨⟨y,i⟩,J,rfl⟩:=Au.1 hw;exact⟨y,W7 (Jz.1 J).1,rfl⟩
 .rintro⟨y,J,rfl⟩;obtain⟨i,L⟩:=Qu J;refine Au.2 ⟨(y,i),Jz.2 ⟨List.mem_zipIdx_iff_getElem?.2 L,?_⟩,rfl⟩;unfold Pf;rw[Dp];intro z W U;obtain⟨j,E⟩:=Qu W;rw[Ak4]at E;split at E
  .rename_i O;have I:(l.map (·.name))[j]?=some z.name:=by rw[Df,E];rfl
   have V:(l.map (·.name))[i]?=some y.name:=by rw[Df,L];rfl
   rw[U]at I;have:=(List.getElem?_inj (i:=j) (j:=i) (by have:=(Az.1 I).1;exact this) Z).1 (I.trans V.symm);omega
  .cases E
theorem D8j{nm:A2}:∀{l:List Decl},(∀d,d∈l->d.kind=3/\d.name=nm)->(l.map (λd=>d.sig.name)).Nodup->∀{d:Decl},d∈l->l.find? (Fk nm d.sig.name)=some d
 |[],_,_,d,hd=>by simp at hd
 |e::l,J,I,d,hd=>by
  rw[Ck,Ao3]at I;rw[An2];rcases B1.1 hd with rfl|hd
  .have:Fk nm d.sig.name d=true:=by
    unfold Fk;obtain⟨L,U⟩:=J d (by simp);simp[L,U]
   rw[this]
  .have E:e.sig.name≠d.sig.name:=λO=>I.1 (by rw[O];exact Au.2 ⟨d,hd,rfl⟩);have:Fk nm d.sig.name e=false:=by
    unfold Fk;rw[C9 E,Rc]
   rw[this];exact D8j (λd hd=>J d (by simp[hd])) I.2 hd
theorem E9u{l m:List Ah}(O:Ad l=Ad m)(U:l.map (λf=>f.bound.er)=m.map (λf=>f.bound.er)):l.map Ah.er=m.map Ah.er:=by
 apply Ld;intro i;have E:(Ad l)[i]?=(Ad m)[i]?:=by rw[O]
 have I:(l.map (λf=>f.bound.er))[i]?=(m.map (λf=>f.bound.er))[i]?:=by rw[U]
 simp only[Ad,Df]at E I |-;cases L:l[i]? with
 |none =>
  rw[L]at E;cases J:m[i]? with
  |none=>rfl
  |some b=>rw[J]at E;simp at E
 |some a =>
  rw[L]at E I;cases J:m[i]? with
  |none=>rw[J]at E;simp at E
  |some b =>rw[J]at E I;simp only[Ez,B5]at E I |-;unfold Ah.er;rw[E,I]
theorem H5f{l m:List Param}(O:∀f,f∈l->f.name=[])(E:∀f,f∈m->f.name=[])(L:l.map (λf=>f.type.er)=m.map (λf=>f.type.er)):l.map Param.er=m.map Param.er:=by
 have key:∀k:List Param,(∀f,f∈k->f.name=[])->k.map Param.er=(k.map (λf=>f.type.er)).map λt=>(⟨[],t,0⟩:Param):=λk J=>by rw[Ff];exact Ie λf I=>by unfold Param.er;rw[J f I];rfl
 rw[key l O,key m E,L]
theorem D1n{s:A3}:∀f,f∈s.canon.params->f.name=[]:=λf E=>by unfold A3.canon It at E;obtain⟨i,y,I,_,rfl⟩:=mem_mapIdx E;have:=(Az.1 I).1;simp only[A8 this]
theorem G4r{v w:A3}(O:v.name=w.name)(E:v.canon.A1.map (λf=>f.bound.er)=w.canon.A1.map (λf=>f.bound.er))(I:v.canon.params.map (λf=>f.type.er)=w.canon.params.map (λf=>f.type.er))(J:v.canon.result.er=w.canon.result.er):v.canon.er=w.canon.er:=by
 have L:v.canon.A1.length=w.canon.A1.length:=by have:=Gi List.length E;simpa using this
 have U:Ad v.canon.A1=Ad w.canon.A1:=by rw[(A9b v).fs,(A9b w).fs,L]
 unfold A3.er;rw[E9u U E,H5f D1n D1n I,J];have:v.canon.name=w.canon.name:=O;rw[this]
theorem G3s{v w:A3}(U:v.name=w.name)(h:v.canon.er=w.canon.er):Jw v=Jw w:=by
 obtain⟨_,J,L,O⟩:=A1m h;have f1:v.canon.A1.map (λf=>f.bound.mg)=w.canon.A1.map (λf=>f.bound.mg):=by
  have:∀k:List Ah,k.map (λf=>f.bound.mg)=(k.map Ah.er).map λf=>f.bound.mg:=λk=>by rw[Ff];exact Ie λf _=>(C0e f.bound).symm
  rw[this v.canon.A1,this w.canon.A1,J]
 have f2:v.canon.params.map (λf=>f.type.mg)=w.canon.params.map (λf=>f.type.mg):=by
  have:∀k:List Param,k.map (λf=>f.type.mg)=(k.map Param.er).map λf=>f.type.mg:=λk=>by rw[Ff];exact Ie λf _=>(C0e f.type).symm
  rw[this v.canon.params,this w.canon.params,L]
 have I:∀k:List Ah,Jc k=(k.map (λf=>f.bound.mg)).flatMap λz=>z++[95,66]:=λk=>by simp[Jc,List.flatMap_map]
 have E:∀k:List Param,Ja k=(k.map (λf=>f.type.mg)).flatMap λz=>z++[95,80]:=λk=>by simp[Ja,List.flatMap_map]
 unfold Jw;rw[U,I,I,E,E,f1,f2,C0s O]
theorem E4d{c d:B9}{g k:A3}(h:g.er=k.er)(U:c.name=d.name)(I:c.targs.map Ty.er=d.targs.map Ty.er):E1 c g=E1 d k:=by
 obtain⟨_,e1,Z,W⟩:=A1m h;have L:Ad g.A1=Ad k.A1:=by rw[<-X5 g.A1,e1,X5]
 have O:Gq c.name c.targs=Gq d.name d.targs:=by rw[U,Gq,Gq,G6g I]
 have hr:Pd (g.result.subst (Ad g.A1) c.targs)=Pd (k.result.subst (Ad k.A1) d.targs):=E5u (by rw[Ik,Ik,L,I,W]);have V:H9 (g.params.map (Param.subst (Ad g.A1) c.targs))=H9 (k.params.map (Param.subst (Ad k.A1) d.targs)):=by
  unfold H9;refine Ld λi=>?_;have:=Gi (λl=>l[i]?) Z;simp only[Df]at this;simp only[Sd,Df,Option.map_map];cases J:g.params[i]? with
  |none =>
   cases E:k.params[i]? with
   |none=>rfl
   |some b=>rw[J,E]at this;simp at this
  |some a =>
   cases E:k.params[i]? with
   |none=>rw[J,E]at this;simp at this
   |some b =>
    rw[J,E]at this;simp only[Ez,B5]at this;have ht:a.type.er=b.type.er:=by have:=Gi Param.type this;simpa [Param.er]using this
    simp only[Ez,Function.comp,Param.subst]
    congr 2
    exact E5u (by rw[Ik,Ik,L,I,ht])
 unfold E1;rw[O,hr,V]
section
variable {p:Prog} {s:An} (h:T6 p s)
include h
theorem B2o{x:Ty}(I:x∈s.types)(a:Int){w:A3}:w∈Cw (Hi p s) [] (.mk x.mg [] a)↔∃g,g∈Mz p s x/\w=plS g:=by
 have E:=H0p h I;by_cases J:Bh p x 1=true
 .rw[G6n (by rw[A8s h I a (.inl rfl)];exact J)];unfold Mz at E |-;rw[A8 J]at E |-;rw[Ff]at E;constructor
  .rintro⟨d,hd,rfl⟩;rw[E1g h I J]at hd;have L:=Am5 hd;refine⟨d.sig,Au.2 ⟨d,L,rfl⟩,?_⟩;rw[(A2x h I L).2.2.1];rfl
  .rintro⟨g,V,rfl⟩;obtain⟨d,hd,rfl⟩:=Au.1 V;refine⟨d,?_,?_⟩
   .rw[E1g h I J];exact D8j (λd hd=>⟨(A2x h I hd).2.1,(A2x h I hd).1⟩) E hd
   .rw[(A2x h I hd).2.2.1];rfl
 .have U:=(B8j (h.wf I)).resolve_left J;have O:isIface (Hi p s) [] (.mk x.mg [] a)=true:=by unfold isIface;rw[A8s h I a (.inr rfl),U,A7t];rfl
  rw[B3g O];unfold Gs;rw[A8 (by rw[A8s h I a (.inr rfl)];exact U)];show w∈Vm ((F7 (Hi p s) x.mg).getD default) (.mk x.mg [] a)↔_;rw[C9a h I,Dz];unfold K9 Vm Mz;rw[A6 J,A6 J];unfold Mz at E;rw[A6 J]at E;exact G7b E
theorem C1g{x:Ty}(L:x∈s.types){w:A3}(hw:w∈Mz p s x):(∃c g,c∈Lj p s x/\Hk p c=some (E1 c g)/\g∈Cw p [] x/\g.name=c.name/\w.name=(E1 c g).name/\pE w=pE (E1 c g))\/∃g,g∈C7 p [] x/\w=Hd g:=by
 rcases(A6o h L).1 hw with⟨c,g,O,W,J,I,hh⟩|hh
 .refine .inl ⟨c,g,O,W,J,I,?_⟩;split at hh
  .rename_i U;obtain⟨d,hd,rfl⟩:=hh;refine⟨rfl,?_⟩;obtain⟨d',_,_,_,_,V,E⟩:=A5p U J;rw[I,hd]at E;cases E;have Z:(E1 c g).params.length<=d.sig.params.length:=by
    show(H9 _).length<=_;rw[A7u,Bc,V];simp only[A3.subst,Bc,A3.canon,Vy];exact Bs _
   have:=G0s (E1 c g).params d.sig.params Z;unfold pE;simp only
   congr 1
   have e:∀k:List Param,k.map (λf=>(⟨[],f.type.er,0⟩:Param))=(k.map (·.type)).map λt=>⟨[],t.er,0⟩:=λk=>by rw[Ff];rfl
   rw[e,e,this]
  .rw[hh];exact⟨rfl,rfl⟩
 .exact .inr hh
theorem G3q{x:Ty}(E:x∈s.types){c:B9}(O:c∈Lj p s x):∃w g,w∈Mz p s x/\Hk p c=some (E1 c g)/\g∈Cw p [] x/\g.name=c.name/\w.name=(E1 c g).name/\pE w=pE (E1 c g):=by
 obtain⟨g,J,I,g3,_,_,W,_⟩:=Xr h E O;have U:∃w,w∈Mz p s x/\w.name=(E1 c g).name:=by
  by_cases V:Bh p x 1=true
  .obtain⟨d,_,_,_,_,_,L⟩:=A5p V J;rw[I]at L;exact⟨⟨(E1 c g).name,[],Gm (E1 c g).params d.sig.params,(E1 c g).result,0⟩,(A6o h E).2 (.inl ⟨c,g,O,W,J,I,by rw[A8 V];exact⟨d,L,rfl⟩⟩),rfl⟩
  .exact⟨_,(A6o h E).2 (.inl ⟨c,g,O,W,J,I,by rw[A6 V]⟩),rfl⟩
 obtain⟨w,U,Z⟩:=U;refine⟨w,g,U,W,J,I,Z,?_⟩;rcases C1g h E U with⟨c',g',k1,k2,k3,k4,k5,k6⟩|⟨g',k1,rfl⟩
 .rw[Z]at k5;obtain⟨e1,e2⟩:=D6z (λt ht=>((Th h E c O).2.targs t ht).mg) (λt ht=>((Th h E c' k1).2.targs t ht).mg) k5;have:g'=g:=A2k (A8b p [] x) k3 J (by rw[k4,I,e1]);subst this;rw[k6,E4d rfl e1.symm e2.symm]
 .exact absurd Z (C5w (A3t h E k1) λt ht=>((Th h E c O).2.targs t ht).mg)
theorem H2h{x y:Ty}(L:x∈s.types)(J:y∈s.types)(a b:Int):Cv (Hi p s) [] (.mk x.mg [] a) (.mk y.mg [] b)=Cv p [] x y:=by
 by_cases W:Bh p y 2=true
 .have E:isIface (Hi p s) [] (.mk y.mg [] b)=true:=by unfold isIface;rw[A8s h J b (.inr rfl),W,A7t];rfl
  have I:isIface p [] y=true:=by unfold isIface;rw[W,A7t];rfl
  rw[Xm];have e1:Cv (Hi p s) [] (.mk x.mg [] a) (.mk y.mg [] b)=true↔∀w,w∈Cw (Hi p s) [] (.mk y.mg [] b)->∃v,v∈Cw (Hi p s) [] (.mk x.mg [] a)/\v.name=w.name/\v.canon.er=w.canon.er:=by unfold Cv;rw[A8 E,Dp];exact A4f
  have e2:Cv p [] x y=true↔∀w,w∈Cw p [] y->∃v,v∈Cw p [] x/\v.name=w.name/\v.canon.er=w.canon.er:=by unfold Cv;rw[A8 I,Dp];exact A4f
  constructor
  .intro hq;refine e2.2 λw hw=>?_;have O:=Nt.2 hw;obtain⟨v,hv,Z,_⟩:=e1.1 hq (plS (Hd w)) ((B2o h J b).2 ⟨Hd w,(A6o h J).2 (.inr ⟨w,O,rfl⟩),rfl⟩);obtain⟨g,hg,rfl⟩:=(B2o h L a).1 hv;have Z:g.name=Jw w:=Z;rcases C1g h L hg with⟨c,V,k1,k2,k3,k4,k5,_⟩|⟨V,k1,rfl⟩
   .rw[Z]at k5;exact absurd k5 (C5w (A3t h J O) λt ht=>((Th h L c k1).2.targs t ht).mg)
   .obtain⟨d1,d2,d3,d4⟩:=D0d (A3t h L k1) (A3t h J O) Z;exact⟨V,Nt.1 k1,d1,G4r d1 d2 d3 d4⟩
  .intro hp;refine e1.2 λw hw=>?_;obtain⟨g,hg,rfl⟩:=(B2o h J b).1 hw;rcases C1g h J hg with⟨c,gy,k1,k2,k3,k4,k5,k6⟩|⟨V,k1,rfl⟩
   .obtain⟨a0,y1,y2,_,_,_,_,c0,c1,c2,rfl,_⟩:=Xr h J k1;obtain⟨cx,m1,m2,m3,m4⟩:=E8x h (x:=x) c1 (X7 hp c2);obtain⟨w',gx,w1,w2,w3,w4,w5,w6⟩:=G3q h L m1;obtain⟨v,v1,v2⟩:=A7v hp gy k3;have:v=gx:=A2k (A8b p [] x) v1 w3 (by rw[w4,m3,(A1m v2).1,k4]);subst this;have U:E1 cx v=E1 ⟨y,c0.name,c0.targs⟩ gy:=E4d v2 m3 m4;refine⟨plS w',(B2o h L a).2 ⟨w',w1,rfl⟩,?_,?_⟩
    .show w'.name=g.name;rw[w5,k5,U]
    .rw[(D5u (C4x h L w1)).1,(D5u (C4x h J hg)).1,w6,k6,U]
   .obtain⟨v,v1,v2,v3⟩:=e2.1 hp V (Nt.1 k1);have hd:Hd v=Hd V:=by unfold Hd;rw[G3s v2 v3]
    exact⟨plS (Hd v),(B2o h L a).2 ⟨Hd v,(A6o h L).2 (.inr ⟨v,Nt.2 v1,rfl⟩),rfl⟩,by rw[hd],by rw[hd]⟩
 .have E:¬isIface (Hi p s) [] (.mk y.mg [] b)=true:=by
   unfold isIface;rw[A8s h J b (.inr rfl),Bb];exact λhh=>W hh.1
  have I:¬isIface p [] y=true:=by unfold isIface;rw[Bb];exact λhh=>W hh.1
  unfold Cv;rw[A6 E,A6 I,Xm,Sx,Sx];constructor
  .intro he;rw[Ht,Ht]at he;exact E7b (h.mg L) (h.mg J) (by simpa [Ty.name]using Gi Ty.name he)
  .intro he;rw[Ht,Ht];simp only[Ty.name,Ty.args,G3];rw[C0s he]
end
end Go.Abs
/- what a type or a call needs does not depend on places -/
namespace Go.Abs
open Go
theorem G3e{a b:B9}(I:a.on.er=b.on.er)(E:a.name=b.name)(J:a.targs.map Ty.er=b.targs.map Ty.er):Dn a b=0:=by
 unfold Dn;rw[A8 ((Tn _ _).2 I),A8 (Se.2 E)]
 grind[Tn,Ht,Qj,Hs]
theorem Kj.er{t u:Ty}{l:List Ty}(h:t.er=u.er)(k:Kj t l):Kj u l:=by obtain⟨w,E,e⟩:=k;exact⟨w,E,h.symm.trans e⟩
theorem Yk.er{c d:B9}{l:List B9}(h:Dn c d=0)(k:Yk c l):Yk d l:=by obtain⟨w,E,e⟩:=k;exact⟨w,E,F2m (F5o h) e⟩
theorem B2i{y:Ex}:∀{l:List Ex},y∈Co l↔∃k,k∈l/\y∈B8 k
 |[]=>by simp[Co]
 |a::l=>by rw[Co,Bz,B2i];simp
mutual
theorem C4r(v:List A2)(a:List Ty):∀e:Ex,B8 (e.subst v a)=(B8 e).map (Ex.subst v a)
 |.mk k n t l ks q=>by rw[P0,B8,B8,Ck,P0 v a (.mk k n t l ks q)];have:(Ex.mk k n t l ks q).kids=ks:=rfl;rw[this,C9t v a ks]
theorem C9t(v:List A2)(a:List Ty):∀l:List Ex,Co (l.map (Ex.subst v a))=(Co l).map (Ex.subst v a)
 |[]=>rfl
 |e::l=>by rw[Ck,Co,Co,G0,C4r v a e,C9t v a l]
end
theorem D3j{l m:List Param}(h:l.map (·.name)=m.map (·.name))(nm:A2):Hj l nm=Hj m nm:=by
 have key:∀l:List Param,l.findIdx? (λf=>decide (f.name=nm))=(l.map (·.name)).findIdx? (λs=>decide (s=nm)):=λl=>by rw[List.findIdx?_map];rfl
 grind[Hj,Dr]
def VE(V1 E:List Param):Prop:=V1.map (λf=>(f.name,f.type.er))=E.map (λf=>(f.name,f.type.er))
theorem VE.names{V1 E:List Param}(h:VE V1 E):V1.map (·.name)=E.map (·.name):=by have:=Gi (List.map Prod.fst) h;rw[Ff,Ff]at this;exact this
theorem D9q{l:List Ty}{v:List A2}{a b:List Ty}(E:a.map Ty.er=b.map Ty.er):(l.map (Ty.subst v a)).map Ty.er=(l.map (Ty.subst v b)).map Ty.er:=by grind[List.map_congr_left,Ik]
theorem ek(v:List A2)(a:List Ty)(e:Ex):(e.subst v a).kind=e.kind:=by rw[P0];rfl
theorem en(v:List A2)(a:List Ty)(e:Ex):(e.subst v a).name=e.name:=by rw[P0];rfl
theorem et(v:List A2)(a:List Ty)(e:Ex):(e.subst v a).type=e.type.subst v a:=by rw[P0];rfl
theorem eg(v:List A2)(a:List Ty)(e:Ex):(e.subst v a).targs=e.targs.map (Ty.subst v a):=by rw[P0];rfl
theorem es(v:List A2)(a:List Ty)(e:Ex):(e.subst v a).kids=e.kids.map (Ex.subst v a):=by rw[P0];rfl
theorem C6g{l m:List Ah}(h:l.map Ah.er=m.map Ah.er):Ad l=Ad m:=by grind[X5]
theorem G4s{p:Prog}{st:Bool}{V1 V2:List Param}(hV:VE V1 V2){v:List A2}{a b:List Ty}(a3:a.map Ty.er=b.map Ty.er) :
  ∀(e:Ex) (t t':Ty),Eh ⟨p,st,[],V1⟩ (e.subst v a)=(t,none)->Eh ⟨p,st,[],V2⟩ (e.subst v b)=(t',none)->t.er=t'.er:=by
 intro e
 induction e using Ex.induct with|_ e ih=>?_
 intro t t' h J;rcases Nf.1 h with⟨k1,k,f,I,O,rfl⟩|⟨k1,_,_,_,rfl⟩|⟨w,ws,x,Z,hx,h⟩
 .rw[ek]at k1;rcases Nf.1 J with⟨_,k',f',L,V,rfl⟩|⟨k2,_⟩|⟨_,_,_,_,_,k2|k2|k2⟩
  .rw[en]at I L;simp only at I O L V;rw[D3j hV.names]at I;have:k=k':=by omega
   subst this;obtain⟨y,hy,e⟩:=A4h hV O
   grind
  .rw[ek]at k2;omega
  all_goals grind[ek]
 .rw[ek]at k1;rcases Nf.1 J with⟨k2,_⟩|⟨_,_,_,_,rfl⟩|⟨_,_,_,_,_,k2|k2|k2⟩
  .rw[ek]at k2;omega
  .grind[et,Ik]
  all_goals grind[ek]
 .rcases Nf.1 J with⟨k2,_⟩|⟨k2,_⟩|⟨w',a5,x',E,a0,J⟩
  .grind[ek]
  .grind[ek]
  .rw[es]at Z E;cases a1:e.kids with
   |nil=>grind
   |cons q qs =>
    rw[a1]at Z E;simp at Z E;obtain⟨rfl,rfl⟩:=Z;obtain⟨rfl,rfl⟩:=E;have U:=ih q (by grind) x x' hx a0;rcases h with⟨k1,s,hs,_,rfl⟩|⟨k1,_,k,f,I,O,rfl⟩|⟨k1,_,_,rfl⟩
    .rcases J with⟨_,s',a2,_,rfl⟩|⟨k2,_⟩|⟨k2,_⟩
     .obtain⟨s1,s2,_⟩:=A6i.1 hs;obtain⟨L,V,_⟩:=A6i.1 a2;obtain⟨s3,m3,e3⟩:=C3e U s1;have a4:=A1m e3
      grind[en,A2k,A8b,Ik,C6g,eg,D9q]
     .rw[ek]at k1 k2;omega
     .rw[ek]at k1 k2;omega
    .rcases J with⟨k2,_⟩|⟨_,_,k',f',L,V,rfl⟩|⟨k2,_⟩
     .rw[ek]at k1 k2;omega
     .have W:=D9j (p:=p) U;have hn:(Bx p x).map (·.name)=(Bx p x').map (·.name):=by
       have:=Gi (List.map Param.name) W;simpa [Ff,Param.er,Function.comp_def]using this
      rw[en]at I L;simp only at I O L V;rw[D3j hn]at I;have:k=k':=by omega
      subst this;obtain⟨y,hy,e⟩:=A4h W O;rw[V]at hy;cases hy;have:=Gi Param.type e
      grind[Param.er]
     .rw[ek]at k1 k2;omega
    grind[ek,et,Ik]
def C0d(p:Prog)(vars:List Param)(y:Ex)(E:List Ty)(cs:List B9):Prop :=
 (y.kind=3\/y.kind=5->Kj y.type E)/\∀v vs,y.kind=2->y.kids=v::vs->∀K,Eh ⟨p,false,[],vars⟩ v=(K,none)->Kj K E/\Yk ⟨K,y.name,y.targs⟩ cs
theorem C0d.sub{p:Prog}{V1 U:List Param}(hV:VE V1 U){v:List A2}{a b:List Ty}(I:a.map Ty.er=b.map Ty.er){y:Ex}{L:List Ty}{cs:List B9}(h:C0d p V1 (y.subst v a) L cs)(W:∀q,q∈(y.subst v a).kids->∃K,Eh ⟨p,false,[],V1⟩ q=(K,none)) :
  C0d p U (y.subst v b) L cs:=by
 refine⟨λk=>?_,λw ws k2 J K Z=>?_⟩
 .rw[ek]at k;have:=h.1 (by rw[ek];exact k);refine this.er ?_
  grind[et,Ik]
 .rw[ek]at k2;rw[es]at J;cases E:y.kids with
  |nil=>grind
  |cons q qs =>rw[E]at J;simp at J;obtain⟨rfl,rfl⟩:=J;obtain⟨V,u1⟩:=W (q.subst v a) (by rw[es,E];simp);obtain⟨g1,g2⟩:=h.2 (q.subst v a) (qs.map (Ex.subst v a)) (by rw[ek];exact k2) (by rw[es,E];rfl) V u1;have O:=G4s hV I q V K u1 Z;exact⟨g1.er O,g2.er (G3e O (by rw[en,en]) (by rw[eg,eg];exact D9q I))⟩
theorem G0r{p:Prog}{x y:Ty}(h:x.er=y.er)(m:A2):Jr p x m=Jr p y m:=by
 have I:x.name=y.name:=by rw[<-A9z x,h,A9z]
 have E:x.args.length=y.args.length:=by have:=Gi (λt=>t.args.length) h;rw[Ht,Ht]at this;simpa [Hs]using this
 grind[Jr,A4m]
theorem E6v{p:Prog}{x:Ty}{c:B9}{g:A3}:Mu p x c=some g↔g∈Cw p [] x/\g.name=c.name/\g.A1.length=c.targs.length/\Cv p [] x c.on=true:=by
 unfold Mu Fb;rcases N4 (λs:A3=>decide (s.name=c.name)) (C7 p [] x)with⟨E,I⟩|⟨j,y,E,I,L⟩
 .rw[E,A8 (by decide)]
  grind[Nt]
 .rw[E,A6 (by omega),Je,I];simp only;have O:=Nt.1 (C6 I);simp at L;constructor
  .grind
  .rintro⟨J,U,V,W⟩;have:y=g:=A2k (A8b p [] x) O J (by grind)
   grind
def C8j(p:Prog)(x:Ty)(c:B9)(E:List Ty)(cs:List B9):Prop:=∀g,Mu p x c=some g->(∀t,t∈Wr g c->Kj t E)/\Kj (Wg g c) E/\∀d,Jr p x c.name=some d->∀y,y∈B8 (My d x c)->C0d p (Ws p d x c) y E cs
theorem C8j.er{p:Prog}(hg:Typed p){x U:Ty}{c O:B9}(L:x.er=U.er)(hc:Dn c O=0)(V:Bk p [] x=none)(a0:A6d p c){ts:List Ty}{cs:List B9}(h:C8j p x c ts cs):C8j p U O ts cs:=by
 obtain⟨c1,c2,c3⟩:=D1s hc;intro g' a5;obtain⟨a1,a2,a3,a4⟩:=E6v.1 a5;obtain⟨g,m,e⟩:=C3e L.symm a1;have hl:c.targs.length=O.targs.length:=by have:=Gi List.length c3;simpa using this
 obtain⟨e1,e2,e3,e4⟩:=A1m e;have a6:g.A1.length=g'.A1.length:=by have:=Gi List.length e2;simpa using this
 have hs:Mu p x c=some g:=E6v.2 ⟨m,by grind,by omega,D3p L.symm c1.symm a4⟩;obtain⟨n1,n2,n3⟩:=h g hs;have E:(Jt x c).map Ty.er=(Jt U O).map Ty.er:=by
  have Z:x.args.map Ty.er=U.args.map Ty.er:=by
   have:=Gi Ty.args L
   rwa [Ht,Ht,Hs,Hs]at this
  unfold Jt;rw[G0,G0,Z,c3]
 refine⟨λt ht=>?_,?_,λd hd y hy=>?_⟩
 .obtain⟨q',W,rfl⟩:=Au.1 ht;obtain⟨i,hi⟩:=Qu W;obtain⟨q,hq,eq⟩:=A4h e3.symm hi;have a7:q.type.er=q'.type.er:=by
   have:=Gi Param.type eq;simpa [Param.er]using this
  refine(n1 _ (Au.2 ⟨q,C6 hq,rfl⟩)).er ?_
  grind[Ik,C6g]
 .refine n2.er ?_
  grind[Wg,Ik,C6g]
 .rw[<-G0r L,<-c2]at hd;obtain⟨b1,b2,_,_,b3,t,b4,_⟩:=D0m hg V a0 hs hd;unfold My at hy b4;rw[C4r]at hy;obtain⟨z,hz,rfl⟩:=Au.1 hy;have J:z.subst (Mr d) (Jt x c)∈B8 (d.body.subst (Mr d) (Jt x c)):=by rw[C4r];exact Au.2 ⟨z,hz,rfl⟩
  have I:=E6d ((C7o hg.right).1 d b1 b2) x c;obtain⟨o1,K,hK⟩:=D6d I b4 _ J;refine(n3 d hd _ J).sub (V1:=Ws p d x c) ?_ E (λq hq=>C9p o1 hK q hq);unfold VE Ws;rw[Ff,Ff];refine Ie λf _=>?_;simp only[Function.comp,Param.subst,Fp,Qi];rw[Ik,Ik,E]
end Go.Abs
/- the program of an instance set is right, has no type parameters, and declares all its types -/
namespace Go.Abs
open Go
theorem D2h{s:A2}{c:UInt8}(h:c∈s)(I:c.toNat<97):A7y s=false:=by
 unfold A7y;refine C9 λE=>?_;have:∀b,b∈s->97<=b.toNat:=by rcases E with rfl|rfl|rfl|rfl|rfl|rfl|rfl <;> decide
 have:=this c h;omega
theorem D6k{n:A2}(h:n.all I3=true):(Ew n).all I3=true:=by
 simp only[Ew,Dm,Ak8]at*;rintro c ⟨b,I,E⟩;split at E
 .simp only[B1,E5,Ea,or_self]at E;rw[E];decide
 .rw[U0.1 E];exact h _ I
theorem D1f:∀{n:A2},(95:UInt8) ∉Ew n->Ew n=n
 |[],_=>rfl
 |c::n,h=>by
  unfold Ew at h |-;rw[Zw]at h |-;by_cases E:c=95
  .rw[A8 E]at h;simp at h
  .rw[A6 E]at h |-;have:Ew n=n:=D1f λI=>h (Bz.2 (.inr I));unfold Ew at this;rw[this];rfl
theorem B6f{c:UInt8}{r:A2}(h:isName (c::r)=true):cls c.toNat=1/\(c::r).all I3=true/\A7y (c::r)=false:=by unfold isName at h;simp only[Bb,Dp,Js]at h;exact⟨h.1.1,h.1.2,h.2⟩
theorem E0z{c:UInt8}{r:A2}(J:cls c.toNat=1)(E:(c::r).all I3=true)(I:A7y (c::r)=false):isName (c::r)=true:=by unfold isName;simp only[Bb,Dp,Js];exact⟨⟨J,E⟩,I⟩
theorem G1q{n:A2}(h:isName n=true):n.all I3=true:=by
 cases n with
 |nil=>rfl
 |cons c r=>exact(B6f h).2.1
theorem C3o{n z:A2}(J:isName n=true)(V:z.all I3=true)(hu:z=[]\/(95:UInt8)∈z):isName (Ew n++z)=true:=by
 cases n with
 |nil=>simp[isName]at J
 |cons c r =>
  obtain⟨L,U,Z⟩:=B6f J;have W:c≠95:=by rintro rfl;revert L;decide
  have e:Ew (c::r)=c::Ew r:=by simp[Ew,W]
  by_cases E:(95:UInt8)∈Ew (c::r)++z
  .have O:=D2h E (by decide);have I:=D6k U;rw[e,Jq]at*;refine E0z L ?_ O;rw[Qv,Bb]at I |-;rw[Y0,I.2,V];exact⟨I.1,rfl⟩
  .rcases hu with rfl|hu
   .rw[Fj]at E |-;rw[D1f E];exact J
   .exact absurd (Bz.2 (.inr hu)) E
theorem G0g{c:UInt8}(h:48<=c.toNat/\c.toNat<=57):I3 c=true:=by
 have:cls c.toNat=2:=by unfold cls;rw[A6 (show ¬letter (c.toNat:Int) by unfold letter;omega),A8 (show 48<=(c.toNat:Int)/\(c.toNat:Int)<=57 by omega)]
 unfold I3;rw[this];decide
theorem D8g(i:Nat):(Lib.itoa (i:Int)).all I3=true:=by rw[Vt,Dm];exact λc E=>G0g (D2g i c E)
theorem G6z(i:Nat):isName ([112]++Lib.itoa (i:Int))=true:=by
 refine E0z (by decide) ?_ ?_
 .rw[Qv,Bb];exact⟨by decide,D8g i⟩
 .obtain⟨c,r,e,I,E⟩:=E8b i;refine D2h (c:=c) ?_ (by omega);simp[Vt,e]
theorem G6x{E:A2}(hs:E.all I3=true){l:List A2}(h:∀x,x∈l->x.all I3=true):(Lib.join l E).all I3=true:=by
 cases l with
 |nil=>rfl
 |cons x r =>
  rw[Lib.join_cons,Y0,h x (by simp),Cj];unfold Lib.joinTail;rw[Dm]at hs |-;intro c hc;obtain⟨z,I,hc⟩:=List.mem_flatten.1 hc;obtain⟨y,J,rfl⟩:=Au.1 I;rcases Bz.1 hc with hc|hc
  .exact hs c hc
  .exact Dm.1 (h y (by simp[J])) c hc
theorem C1j{l:List Ty}(h:∀t,t∈l->t.mg.all I3=true):(Jb l).all I3=true:=by
 unfold Jb;split
 .rfl
 .rw[Y0,Y0,G6x (by decide) λx E=>by obtain⟨t,ht,rfl⟩:=Au.1 E;exact h t ht];decide
theorem E0h(l:List Ty):Jb l=[]\/(95:UInt8)∈Jb l:=by
 unfold Jb;split
 .exact .inl rfl
 .exact .inr (by simp)
theorem B3x:∀{t:Ty},t.Mg->t.mg.all I3=true:=by
 intro t h
 induction h with
 |loc i p U =>rw[Ty.A1f,A8 ⟨rfl,rfl⟩,Y0];have:(E0 i).drop 1=Lib.itoa (i:Int):=rfl;simp only[Ty.name];rw[this,D8g];decide
 |Pg n a p E V W O J =>
  rw[Ty.A1f];split
  .rename_i L;cases n with
   |nil=>simp[isName]at E
   |cons c r =>
    have I:=(B6f E).1;have:c=36:=by simpa [Ty.name]using L.1
    subst this;exact absurd I (by decide)
  .simp only[Ty.name,Ty.args];rw[Y0,D6k (G1q E),C1j J];rfl
theorem B6k{t:Ty}(h:t.Mg)(E:isName t.name=true):isName t.mg=true:=by
 rw[Ty.A1f];split
 .rename_i I;cases e:t.name with
  |nil=>rw[e]at E;simp[isName]at E
  |cons c r =>
   rw[e]at E I;have J:=(B6f E).1;have:c=36:=by simpa using I.1
   subst this;exact absurd J (by decide)
 .exact C3o E (C1j λu L=>B3x (h.arg u L)) (E0h _)
theorem E3t{n:A2}{l:List Ty}(I:isName n=true)(h:∀t,t∈l->t.Mg):isName (Gq n l)=true :=
 C3o I (C1j λu E=>B3x (h u E)) (E0h _)
theorem E1h{α:Type}{l:List α}{f:α->A2}(h:∀x,x∈l->(f x).all I3=true):(l.flatMap f).all I3=true:=by rw[Dm];intro c E;obtain⟨x,I,E⟩:=Ak8.1 E;exact Dm.1 (h x I) c E
theorem H5h{g:A3}(J:isName g.name=true)(I:∀f,f∈g.canon.A1->f.bound.Mg)(E:∀f,f∈g.canon.params->f.type.Mg)(hr:g.canon.result.Mg):isName (Jw g)=true:=by unfold Jw Jc Ja;simp only[Ga];refine C3o J ?_ (.inr (by simp));simp only[Y0];rw[E1h λf h=>by rw[Y0,B3x (I f h)];decide,E1h λf h=>by rw[Y0,B3x (E f h)];decide,B3x hr];decide
theorem E5k{p:Prog}(hr:p.right=true){x:Ty}:∀g,g∈Cw p [] x->isName g.name=true:=by
 intro s E;have V:Cs [] x=none:=by simp[Cs,Ep,Dr]
 simp only[Prog.right,Bb,Dm]at hr;have hr:=hr.1;unfold Cw at E;rw[V]at E;simp only[Xa,Sk,I0,Fx]at E;split at E
 .rename_i U;unfold Gs at E;rw[A8 U]at E;obtain⟨d,hd,_⟩:=Mm (by decide) U;rw[hd,Dz]at E;unfold Vm Hn at E;obtain⟨⟨y,i⟩,L,rfl⟩:=Au.1 E;have O:=Ji (W7 (Jz.1 L).1);have h:=hr d (P9 hd);simp only[Decl.right,A3.right,Bb,Dm]at h;exact(h.2.2.2.1 y O).1.1.1
 .unfold Gk at E;obtain⟨⟨d,i⟩,L,rfl⟩:=Au.1 E;have O:d∈p.decls:=Ji (W7 (Jz.1 L).1);have I:=(Jz.1 L).2;unfold Ii at I;simp only[Bb,Dp]at I;have h:=hr d O;have J:d.T2=true:=by
   simp only[Decl.right,Bb]at h;exact h.2.2.2.2.2
  unfold Decl.T2 at J;rw[A8 (by first|exact I.1.1.1|exact I.1.1|exact I.1)]at J;simp only[A3.right,Bb]at J;exact J.2.2.1.1.1.1
theorem C7y{n:A2}(h:isName n=true)(q:Int):(Ty.mk n [] q).right=true:=by unfold Ty.right;rw[Ty.Xf];simp[Ty.name,Ty.args,Ty.Dw,h]
theorem E4v{e f:Ex}(I:e.kind=f.kind)(E:e.kids.length=f.kids.length):e.Lb=f.Lb:=by unfold Ex.Lb;rw[I,E]
theorem D5b:∀{l:List Ex},(∀x,x∈l->x.right=true)->Ex.W8 l=true
 |[],_=>rfl
 |x::l,h=>by rw[Ex.W8,h x (by simp),D5b λy E=>h y (by simp[E])];rfl
theorem D6y:∀{l:List Ex} {k:Ex},k∈l->∀z,z∈B8 k->z∈Co l
 |w::l,k,hk,z,E=>by
  rw[Co,Bz];rcases B1.1 hk with rfl|hk
  .exact .inl E
  .exact .inr (D6y hk z E)
theorem E7g(e:Ex):e.Ry=true↔((e.kind=3\/e.kind=5)/\e.type.right=true/\e.name=[]/\e.Lb=true)\/(¬(e.kind=3\/e.kind=5)/\e.type.right=false/\e.type.name=[]/\e.type.args=[]/\isName e.name=true/\e.Lb=true):=by
 unfold Ex.Ry;have ht:e.typed=true↔(e.kind=3\/e.kind=5):=by unfold Ex.typed;rw[Vp,Dp,Dp]
 by_cases E:e.typed=true
 .rw[A8 E];have:=ht.1 E;simp[this,and_assoc]
 .rw[A6 E];have:¬(e.kind=3\/e.kind=5):=λh=>E (ht.2 h);simp[this,and_assoc]
theorem F8e{f:Ex}(L:f.kind=3\/f.kind=5->isName f.type.mg=true/\f.name=[])(V:¬(f.kind=3\/f.kind=5)->f.type.mg=[]/\isName f.name=true/\∀t,t∈f.targs->t.Mg)(W:f.Lb=true):(D6 f).Ry=true:=by
 rw[Za,E7g];have I:(Ex.mk f.kind (if f.kind=2 then Gq f.name f.targs else f.name) (.mk f.type.mg [] f.type.pos) [] (f.kids.map D6) f.pos).Lb=true:=by
  refine Eq.trans (E4v (f:=f) ?_ ?_) W
  .rfl
  .exact Bc ..
 by_cases E:f.kind=3\/f.kind=5
 .exact .inl ⟨E,C7y (L E).1 _,(show(if f.kind=2 then Gq f.name f.targs else f.name)=[] by rw[A6 (by omega)];exact(L E).2),I⟩
 .obtain⟨J,O,U⟩:=V E;refine .inr ⟨E,(show(Ty.mk f.type.mg [] f.type.pos).right=false by rw[J];rfl),J,rfl,(show isName (if f.kind=2 then Gq f.name f.targs else f.name)=true from ?_),I⟩;split
  .exact E3t O U
  .exact O
theorem F8g{v:List A2}(hv:([]:A2) ∉v){a:List Ty}{B:Nat}:∀{e:Ex},e.right=true->(e.subst v a).Nq B->(∀y,y∈B8 (e.subst v a)->y.kind=3\/y.kind=5->isName y.type.name=true)->(D6 (e.subst v a)).right=true:=by
 intro e
 induction e using Ex.induct with|_ e ih=>?_
 intro hr W hn;rw[Ex.A2g,Bb,Bb]at hr;obtain⟨h1,h2,h3⟩:=hr;have hk:=A7a h1;have I:=hn _ (by rw[M7];exact Ar4);have Z:=W.type;have a0:=W.targs.1;have E:(e.subst v a).kids=e.kids.map (Ex.subst v a):=by rw[Yr];rfl
 have V:∀x,x∈(e.subst v a).kids->(D6 x).right=true:=λx L=>by have O:=L;rw[E]at L;obtain⟨y,U,rfl⟩:=Au.1 L;refine ih y U (hk y U) (W.kids _ O) λz hz=>hn z ?_;rw[M7];exact B1.2 (.inr (D6y O z hz))
 have e1:(e.subst v a).kind=e.kind:=by rw[Yr];rfl
 have e2:(e.subst v a).name=e.name:=by rw[Yr];rfl
 have e3:(e.subst v a).type=e.type.subst v a:=by rw[Yr];rfl
 have h4:=(E7g e).1 h3;rw[Ex.A2g,Bb,Bb];refine⟨D5b λx L=>?_,by rw[Za];rfl,F8e (λJ=>⟨B6k (Z J).mg (I J),?_⟩) (λJ=>?_) ?_⟩
 .rw[Za]at L;obtain⟨y,U,rfl⟩:=Au.1 L;exact V y U
 .rw[e1]at J;rw[e2];rcases h4 with h4|h4
  .exact h4.2.2.1
  .exact absurd J h4.1
 .rw[e1]at J;rcases h4 with h4|h4
  .exact absurd h4.1 J
  .rw[e2,e3,E7r hv h4.2.2.1 h4.2.2.2.1,C7v];exact⟨rfl,h4.2.2.2.2.1,λt ht=>(a0 t ht).mg⟩
 .refine(E4v e1 (by rw[E,Bc])).trans ?_;rcases h4 with h4|h4
  .exact h4.2.2.2
  .exact h4.2.2.2.2.2
theorem D8o:∀e:Ex,B8 (D6 e)=(B8 e).map D6:=by
 intro e
 induction e using Ex.induct with|_ e I=>?_
 have key:∀l:List Ex,(∀x,x∈l->B8 (D6 x)=(B8 x).map D6)->Co (l.map D6)=(Co l).map D6:=by
  intro l
  induction l with
  |nil=>intro _;rfl
  |cons x l E=>intro h;rw[Ck,Co,Co,h x (by simp),E λy J=>h y (by simp[J]),G0]
 rw[M7,M7 e,Ck,<-key _ I,show(D6 e).kids=e.kids.map D6 by rw[Za];rfl]
theorem F2a(e:Ex):Q8 (D6 e)=true:=by unfold Q8;rw[D8o,Dm];intro x E;obtain⟨y,_,rfl⟩:=Au.1 E;rw[Za];rfl
theorem C3n{ps L:List Param}{f:Param}(O:f∈Gm ps L):∃a b,a∈ps/\b∈L/\f=⟨b.name,a.type,a.pos⟩:=by
 obtain⟨i,E⟩:=Qu O;simp only[Gm,As2]at E;cases I:ps[i]? with
 |none=>rw[I]at E;simp at E
 |some a =>
  cases J:L[i]? with
  |none=>rw[I,J]at E;simp at E
  |some b =>rw[I,J]at E;simp only[B5]at E;exact⟨a,b,C6 I,C6 J,E.symm⟩
theorem C4f{p:Prog}(hr:p.right=true){d:Decl}(hd:d∈p.decls)(I:d.kind=3):isName d.recv=true/\∀f,f∈d.sig.params->isName f.name=true:=by simp only[Prog.right,Bb,Dm]at hr;have hr:=hr.1 d hd;unfold Decl.right Decl.T2 at hr;rw[A8 I]at hr;simp only[A3.right,Mb,Bb,Dm]at hr;exact⟨hr.2.2.2.2.2.1,λf E=>(hr.2.2.2.2.2.2.2.1.1.2 f E).1⟩
def QT(s:An)(t:Ty):Prop:=t.args=[]/\(t.name=A4i\/∃u,u∈s.types/\t.name=u.mg)
theorem QT.of{s:An}{t:Ty}(h:Kj t s.types)(q:Int):QT s (.mk t.mg [] q):=by obtain⟨u,E,e⟩:=h;exact⟨rfl,.inr ⟨u,E,C0s e⟩⟩
theorem QT.top{s:An}:QT s A6m:=⟨rfl,.inl rfl⟩
section
variable {p:Prog} {s:An} (h:T6 p s)
include h
theorem B7t{x:Ty}(E:x∈s.types):isName x.name=true:=by obtain⟨d,hd,_⟩:=A8m (C8r (h.wf E)).1;obtain⟨_,I,J⟩:=A7m hd;rw[<-I];exact(C7q h.Ig.right J).1
theorem G9v{t:Ty}(ht:Kj t s.types):isName t.name=true:=by
 obtain⟨u,E,e⟩:=ht;have:t.name=u.name:=by have:=Gi Ty.name e;cases t;cases u;simp only[Ty.er,Ty.name]at this |-;exact this
 rw[this];exact B7t h E
theorem QT.right{t:Ty}(ht:QT s t):t.right=true:=by
 obtain⟨n,a,q⟩:=t;obtain⟨J,E⟩:=ht;simp only[Ty.args,Ty.name]at J E;subst J;rcases E with rfl|⟨u,I,rfl⟩
 .exact C7y (by decide) q
 .exact C7y (B6k (h.mg I) (B7t h I)) q
structure SG(s:An)(w:A3):Prop where
 name:isName w.name=true
 A1:w.A1=[]
 params:∀f,f∈w.params->isName f.name=true/\QT s f.type
 result:QT s w.result
theorem SG.right{w:A3}(g:SG s w):w.right=true:=by unfold A3.right Pr Mb;rw[g.name,g.A1,QT.right h g.result];simp only[Ap8,Cj,Aq1,Dm,Bb];exact λf E=>⟨(g.params f E).1,QT.right h (g.params f E).2⟩
omit h in
theorem SG.q{w:A3}(g:SG s w):B3e (QT s) w:=⟨λf E=>by rw[g.A1]at E;simp at E,λf E=>(g.params f E).2,g.result⟩
theorem SG.call{x:Ty}(E:x∈s.types){c:B9}(L:c∈Lj p s x){g:A3}(U:Hk p c=some g):SG s g:=by
 obtain⟨g',W,Z,g3,g4,g5,g6,c0,m0,hi,e,hs⟩:=Xr h E L;rw[g6]at U;cases U;obtain⟨n1,V,_⟩:=h.Bf.call x E c0 m0 g' hs;obtain⟨_,J⟩:=Th h E c L;refine⟨E3t ?_ λt ht=>(J.targs t ht).mg,rfl,λf O=>?_,QT.of (by have:=V;rw[e];exact this) 0⟩
 .rw[<-Z];exact E5k h.Ig.right _ W
 .unfold E1 H9 at O;obtain⟨i,y,hy,a0,rfl⟩:=mem_mapIdx O;refine⟨G6z i,QT.of ?_ 0⟩;have I:=C6 hy;obtain⟨z,hz,rfl⟩:=Au.1 I;refine n1 _ ?_;unfold Wr;rw[e];exact Au.2 ⟨z,hz,rfl⟩
theorem SG.dum{x:Ty}(J:x∈s.types){g:A3}(I:g∈C7 p [] x):SG s (Hd g):=by have E:=A3t h J I;exact⟨H5h (E5k h.Ig.right _ (Nt.1 I)) E.A1 E.params E.result,rfl,λf L=>by simp[Hd]at L,QT.top⟩
structure DG(s:An)(d:Decl):Prop where
 right:d.right=true
 q:E6b (QT s) d
 bare:Yu d=true
omit h in
theorem E3q{k:Int}(I:k=1\/k=2){n:A2}{fs:List Param}{ss:List A3}(O:isName n=true)(E:Mb fs=true)(hs:ss.all A3.right=true)(J:k=1->ss=[])(L:k=2->fs=[]):(headD k n fs ss).right=true:=by
 unfold Decl.right Decl.T2;have e:(headD k n fs ss).B4n=true:=(show(decide (([]:A2)=[]) && (decide (([]:List A2).length=0) && (Nr Io Io && A8a Uu Uu)))=true by decide +kernel);rw[e,A6 (show ¬(headD k n fs ss).kind=3 by show ¬k=3;omega)];simp only[headD];rw[O,E,hs];rcases I with rfl|rfl
 .rw[J rfl];rfl
 .rw[L rfl];rfl
theorem DG.hd{x:Ty}(L:x∈s.types):DG s (K9 p s x):=by
 have Z:=B6k (h.mg L) (B7t h L);have W:Q8 Uu=true:=by decide +kernel
 unfold K9;split
 .rename_i U;have O:∀f,f∈J9 (Bx p x)->isName f.name=true/\QT s f.type:=λf O=>by
   obtain⟨y,J,rfl⟩:=Au.1 O;refine⟨?_,QT.of (h.Bf.fields x L U y J) 0⟩;unfold Bx at J;rw[A8 U]at J;obtain⟨d,hd,_⟩:=Mm (by decide) U;rw[hd,Dz]at J;unfold fieldsD at J;obtain⟨z,hz,rfl⟩:=Au.1 J;have hr:=h.Ig.right;simp only[Prog.right,Bb,Dm]at hr;have hr:=hr.1 d (P9 hd);simp only[Decl.right,Mb,Bb,Dm]at hr;exact(hr.2.2.1 z hz).1
  refine⟨E3q (.inl rfl) Z ?_ rfl (λ_=>rfl) (λh=>by omega),⟨by simp[headD],λf E=>(O f E).2,by simp[headD],λI=>absurd I (by simp[headD]),λI=>absurd I (by simp[headD])⟩,?_⟩
  .unfold Mb;rw[Dm];exact λf E=>by rw[(O f E).1,QT.right h (O f E).2];rfl
  .show(decide (0+0+Io.A1.length=0) && (Q8 Uu && A2d []))=true;rw[W];rfl
 .have hs:∀g,g∈Vf p s x->SG s g:=λg hg=>by
   rcases Bz.1 hg with hg|hg
   .obtain⟨c,hc,hm⟩:=Ns.1 hg;exact SG.call h L hc hm
   .obtain⟨g',V,rfl⟩:=Au.1 hg;exact SG.dum h L V
  refine⟨E3q (.inr rfl) Z rfl ?_ (λh=>by omega) (λ_=>rfl),⟨by simp[headD],by simp[headD],λg hg=>(hs g hg).q,λI=>absurd I (by simp[headD]),λI=>absurd I (by simp[headD])⟩,?_⟩
  .rw[Dm];exact λg hg=>SG.right h (hs g hg)
  .show(decide (0+0+Io.A1.length=0) && (Q8 Uu && A2d (Vf p s x)))=true;have:A2d (Vf p s x)=true:=by
    unfold A2d;rw[Dm];exact λg hg=>by rw[(hs g hg).A1];rfl
   rw[W,this];rfl
theorem DG.J6{n:A2}(O:isName n=true){r:A2}(hr:isName r=true){g:A3}(E:SG s g){e:Ex}(J:e.right=true)(L:Q8 e=true)(I:∀y,y∈B8 e->ExQ (QT s) y):DG s ⟨3,n,[],[],[],r,[],g,e,0⟩:=by
 refine⟨?_,⟨by simp,by simp,by simp,λ_=>E.q,λ_=>I⟩,?_⟩
 .unfold Decl.right Decl.T2;rw[A8 (show(⟨3,n,[],[],[],r,[],g,e,0⟩:Decl).kind=3 from rfl)];show(isName n && (true && (true && (true && (true && (isName r && (true && (g.right && e.right))))))))=true;rw[O,hr,SG.right h E,J];rfl
 .show(decide (0+0+g.A1.length=0) && (Q8 e && true))=true;rw[E.A1,L];rfl
omit h in
theorem ExQ.rgl{e:Ex}(L:∀y,y∈B8 e->y.kind=3\/y.kind=5->Kj y.type s.types):∀y,y∈B8 (D6 e)->ExQ (QT s) y:=λy E=>by rw[D8o]at E;obtain⟨z,I,rfl⟩:=Au.1 E;rw[Za];exact⟨λJ=>QT.of (L z I J) _,λt ht=>by simp[Ex.targs]at ht⟩
theorem DG.of{x:Ty}(J:x∈s.types):∀d,d∈H2 p s.calls x->DG s d:=by
 intro d hd;have hn:=B6k (h.mg J) (B7t h J);rw[A5j (h.wf J)]at hd;rcases B1.1 hd with rfl|hd
 .exact DG.hd h J
 unfold Q1 at hd;split at hd
 .rename_i hi;rcases Bz.1 hd with hd|hd
  .obtain⟨c,V,hm⟩:=Ns.1 hd;obtain⟨d',g,e1,e2,e3,e4,e5⟩:=A0i h J hi V;rw[hm]at e5;cases e5;obtain⟨g',g1,g2,g3,g4,g5,g6,c0,m0,a2,ec,Z⟩:=Xr h J V;obtain⟨I,E,_,_⟩:=A2n e1;obtain⟨_,_,a0⟩:=C5g h.Ig.right I E;obtain⟨a1,W⟩:=Th h J c V;obtain⟨hq,_,_⟩:=C0i h.Xc h.sm h.Ig.right I E W;rw[a1]at hq;have U:∀y,y∈B8 (My d' x c)->y.kind=3\/y.kind=5->Kj y.type s.types:=λy O=>by
    obtain⟨_,_,n3⟩:=h.Bf.call x J c0 m0 g' Z;have:=n3 d' (by rw[<-e1,ec]) y (by rw[ec]at O;exact O);exact this.1
   refine DG.J6 h hn ?_ ?_ (F8g (E1s h.Ig.right I E) a0 hq λy O hk=>G9v h (U y O hk)) (F2a _) (ExQ.rgl U)
   .exact(C4f h.Ig.right I E).1
   .have L:=SG.call h J V e3;refine⟨L.name,rfl,λf hf=>?_,L.result⟩;obtain⟨a,b,ha,hb,rfl⟩:=C3n hf;exact⟨(C4f h.Ig.right I E).2 b hb,(L.params a ha).2⟩
  .obtain⟨g,hg,rfl⟩:=Au.1 hd;refine DG.J6 h hn (by decide) (SG.dum h J hg) (by rw[Ex.A2g];decide +kernel) (by decide +kernel) λy O=>?_;rw[show B8 (Ex.mk 3 [] A6m [] [] 0)=[Ex.mk 3 [] A6m [] [] 0] from rfl,U0]at O;rw[O];exact⟨λ_=>QT.top,λt ht=>by simp[Ex.targs]at ht⟩
 .simp at hd
omit h in
theorem DG.top:DG s M9:=by refine⟨by decide +kernel,⟨by simp[M9,headD],by simp[M9,headD],by simp[M9,headD],λE=>absurd E (by decide),λE=>absurd E (by decide)⟩,by decide +kernel⟩
theorem DG.all:∀d,d∈(Hi p s).decls->DG s d:=λd hd=>by
 rcases B1.1 hd with rfl|hd
 .exact DG.top
 .obtain⟨x,E,hd⟩:=Ak8.1 hd;exact DG.of h E d hd
end
end Go.Abs
/- the sizes of the program of an instance set -/
namespace Go.Abs
open Go
theorem H2t{s:An}(h:s.calls.length<=101)(x:B9):(Gj s x).calls.length<=101:=by
 unfold Gj;split
 .exact h
 .rename_i E;unfold I6;cases e:Fu Dn x s.calls false []with
  |none=>exact h
  |some R =>have:=(B0i e).2.2;simp only[Ca,I0,Fx]at this;simp only[Dz];omega
theorem D1t(p:Prog)(s:An)(x:Ty):(Lj p s x).length<=101 :=
 foldI (Q:=λs:An=>s.calls.length<=101) (Kk p s.calls x) (λs a _ h=>H2t h a) (Ap6 _)
theorem E4t(n:A2)(q:Int):(Ty.mk n [] q).Nn:=by unfold Ty.Nn;rw[Ty.Xf];simp[Ty.args,Ty.Dw]
structure DS(d:Decl):Prop where
 le:d.Le
 nn:d.Nn
 ln:d.Ln
theorem G2n:Uu.Le:=⟨by decide +kernel,by decide +kernel⟩
theorem F0n:Uu.Nn:=.mk _ _ _ _ _ _ (E4t ..) (by simp) (by simp)
theorem H0r:Io.Nn:=⟨by decide,by simp[Io],by simp[Io],E4t ..⟩
theorem Decl.Le.ln{d:Decl}(h:d.Le)(E:d.vars=[])(I:¬d.kind=3->d.sig.Lm/\d.body.Lm):d.Ln :=
 ⟨Cp h.A1 (by decide),Cp h.fields (by decide),Cp h.A7e (by decide),by rw[E];decide,I⟩
theorem DS.mk2{d:Decl}(h:d.Le)(E:d.Nn)(I:d.vars=[])(J:¬d.kind=3->d.sig.Lm/\d.body.Lm):DS d:=⟨h,E,h.ln I J⟩
theorem DS.head(k:Int)(n:A2){fs:List Param}{ss:List A3}(J:fs.length<=2000)(L:∀f,f∈fs->f.type.Nn)(O:ss.length<=3000)(I:∀g,g∈ss->g.Le/\g.Nn):DS (headD k n fs ss) :=
 .mk2 ⟨by simp[headD],J,O,λg E=>(I g E).1,⟨Ap6 _,Ap6 _⟩,G2n⟩ ⟨by simp[headD],by simp[headD],by simp[headD],L,λg E=>(I g E).2,H0r,F0n⟩ rfl λ_=>⟨E5y,C9s⟩
theorem DS.J6(n r:A2){g:A3}(E:g.Le/\g.Nn){e:Ex}(L:e.Le)(I:e.Nn):DS ⟨3,n,[],[],[],r,[],g,e,0⟩ :=
 .mk2 ⟨by simp,by simp,by simp,by simp,E.1,L⟩ ⟨by simp,by simp,by simp,by simp,by simp,E.2,I⟩ rfl λJ=>absurd rfl J
section
variable {p:Prog} {s:An} (h:T6 p s)
include h
end
end Go.Abs
/- the program of an instance set is of a size that the checks take -/
namespace Go.Abs
open Go
theorem C2q{α:Type}(F:List α->Int->Int)(g:α->Int->Int)(L:∀k,F [] k=k)(J:∀x xs k,F (x::xs) k=if k<=2000 then F xs (g x k)else k)(E:∀x k,k+1<=g x k) :
  ∀(l:List α) (k:Int),F l k<=2000->k+l.length<=F l k/\∀t,t∈l->∃I,k<=I/\g t I<=F l k
 |[],k,h=>by rw[L];simp
 |t::V,k,h=>by
  rw[J]at h |-;split at h
  .rename_i O;rw[A8 O];obtain⟨a,b⟩:=C2q F g L J E V (g t k) h;have:=E t k;refine⟨by rw[Bg];omega,λu hu=>?_⟩;rcases B1.1 hu with rfl|hu
   .exact⟨k,Int.le_refl _,by omega⟩
   .obtain⟨I,W,U⟩:=b u hu;exact⟨I,by omega,U⟩
  .omega
theorem Prog.G3d(p:Prog)(h:p.count<=600):p.decls.length<=600/\∀d,d∈p.decls->d.sigs.length<=600:=by
 unfold Prog.count at h;have J:=Ex.F6 p.main 0;obtain⟨a,b⟩:=C2q J3 Decl.count (λ_=>rfl) (λ_ _ _=>rfl) (λx k=>(Decl.Gt x k).1) p.decls (p.main.count 0) (by omega);refine⟨by omega,λd hd=>?_⟩;obtain⟨n,E,L⟩:=b d hd;have h:d.count n<=600:=by omega
 unfold Decl.count at h;generalize I:n+1+((d.name.length / 50:Nat):Int)+((d.recv.length / 50:Nat):Int)=m at h;obtain⟨U,_⟩:=A5f d.A1 m;obtain⟨E,_⟩:=A4e d.fields (C5 d.A1 m);have c:=C2q En A3.count (λ_=>rfl) (λ_ _ _=>rfl) (λx k=>(A3.Gt x k).1) d.sigs (D2 d.fields (C5 d.A1 m));obtain⟨W,_⟩:=A2z d.vars (En d.sigs (D2 d.fields (C5 d.A1 m)));generalize V:Ix d.vars (En d.sigs (D2 d.fields (C5 d.A1 m)))=z at*;unfold Decl.S6 at h;obtain⟨f1,_⟩:=A3.Gt d.sig z;have O:=Ex.F6 d.body (d.sig.count z);split at h
 .have:=(c (by omega)).1;omega
 .omega
theorem E1x{p:Prog}(h:p.count<=600)(x:Ty):(C7 p [] x).length<=600:=by
 obtain⟨J,I⟩:=Prog.G3d p h;unfold C7;rw[(Z3 _).length_eq];unfold Cw;generalize(Cs [] x).getD x=y;split
 .rename_i E;unfold Gs;rw[A8 E];obtain⟨d,hd,_⟩:=Mm (by decide) E;rw[hd,Dz];exact Cp (B5d _ _ _ _) (I d (P9 hd))
 .split
  .exact Ap6 _
  .exact Cp (A8h ..) J
theorem D8w:∀{e y:Ex},y∈B8 e->y.name.length<=e.Sp:=by
 intro e
 induction e using Ex.induct with|_ e I=>?_
 intro y hy;rw[Ex.C3p];rw[M7,B1]at hy;rcases hy with rfl|hy
 .omega
 .obtain⟨k,E,hy⟩:=B2i.1 hy;have L:=I k E hy;have J:=C6t E;omega
theorem G7k{v:List A2}{a:List Ty}:∀{e y:Ex},y∈B8 (e.subst v a)->∃z,z∈B8 e/\y.name=z.name:=by
 intro e
 induction e using Ex.induct with|_ e J=>?_
 intro y hy;rw[P0,M7,B1]at hy;rcases hy with rfl|hy
 .exact⟨e,by rw[M7];simp,rfl⟩
 .obtain⟨k,I,hy⟩:=B2i.1 hy;obtain⟨k0,E,rfl⟩:=Au.1 I;obtain⟨z,L,O⟩:=J k0 E hy;exact⟨z,by rw[M7];exact Aq3 _ (B2i.2 ⟨k0,E,L⟩),O⟩
theorem D9v{B:Nat}(hB:B<=1000000000000):∀{e:Ex},e.Sm->e.Nq B->e.Rs->(∀y,y∈B8 e->y.name.length<=1000000)->(D6 e).Sm:=by
 intro e
 induction e using Ex.induct with|_ e Z=>?_
 intro hs J hr O;rw[Za];have W:=O e (by rw[M7];simp);obtain⟨U,V⟩:=J.targs;refine .mk _ _ _ _ _ _ ?_ (.mk _ _ _ ?_ (by simp) (by simp)) (by simp) (by simp) (by rw[Bc];exact hs.kids.1) λk hk=>?_
 .split
  .unfold Gq;have I:=A9s e.name;have L:=C5z e.targs;rw[B6];unfold sm;omega
  .unfold sm;omega
 .rcases hr.type with hk|hk|⟨I,L⟩
  .have:=(J.type (.inl hk)).len;have:=Ty.Xv e.type;unfold sm;omega
  .have:=(J.type (.inr hk)).len;have:=Ty.Xv e.type;unfold sm;omega
  .have:e.type.mg=[]:=by
    have:=C7v e.type.pos;cases ht:e.type with|mk n a q=>rw[ht]at I L this;simp only[Ty.name,Ty.args,Ty.pos]at I L this;subst I;subst L;exact this
   rw[this];simp
 .obtain⟨k0,E,rfl⟩:=Au.1 hk;exact Z k0 E (hs.kids.2 k0 E) (J.kids k0 E) (hr.kids k0 E) λy hy=>O y (by rw[M7];exact Aq3 _ (B2i.2 ⟨k0,E,hy⟩))
section
variable {p:Prog} {s:An} (h:T6 p s)
include h
theorem E9y{x:Ty}(E:x∈s.types):(H2 p s.calls x).length<=702:=by
 rw[A5j (h.wf E),Bg];unfold Q1;split
 .have L:=D1t p s x;have I:=E1x h.Xc x;have J:=Ai3 (Ir D6 p) (Lj p s x);rw[B6,Bc];omega
 .simp
theorem F3x:(Hi p s).decls.length<=100000:=by have J:=B2v (H2 p s.calls) 702 s.types λx E=>E9y h E;have I:=h.fd.len;show(M9::s.types.flatMap (H2 p s.calls)).length<=_;rw[Bg];have:s.types.length*702<=60*702:=Hp _ (by omega);omega
theorem C4n{t:Ty}(ht:QT s t):t.Sm:=by
 obtain⟨n,a,q⟩:=t;obtain⟨E,I⟩:=ht;simp only[Ty.args,Ty.name]at E I;subst E;refine .mk _ _ _ ?_ (by simp) (by simp);rcases I with rfl|⟨u,J,rfl⟩
 .decide
 .have O:=Ty.Xv u;have L:=(h.fd.types u J).len;unfold sm;omega
theorem E0u{x:Ty}(O:x∈s.types){w:A3}(hw:w∈Mz p s x)(I:SG s w):w.Sm/\w.params.length<=2000:=by
 have a1:=λg I=>A5h h.sm h.tl h.Ig.right (h.fd.sm.types.2 x O) (h.fd.types x O).args g (Nt.2 I);have key:∀{w:A3},SG s w->w.name.length<=60000000*sm->w.params.length<=2000->(∀f,f∈w.params->f.name.length<=60000000*sm)->w.Sm/\w.params.length<=2000:=λI W h2 Z =>⟨⟨W,by rw[I.A1];simp,⟨by unfold sm;omega,λf E=>⟨Z f E,C4n h (I.params f E).2⟩⟩,C4n h I.result⟩,h2⟩
 rcases(A6o h O).1 hw with⟨c,g,hc,ha,L,hn,hh⟩|⟨g,L,rfl⟩
 .have J:=a1 g L;have a0:=(Th h O c hc).2;have U:(Gq c.name c.targs).length<=60000000*sm:=by
   unfold Gq;have W:=A9s c.name;have h2:=C5z c.targs;have Z:=J.nm;rw[hn]at Z;have h4:=a0.tl;rw[B6];unfold sm;omega
  have V:(E1 c g).params.length=g.params.length:=by show(H9 _).length=_;rw[A7u,Bc]
  split at hh
  .obtain⟨d,hd,rfl⟩:=hh;obtain⟨a2,_⟩:=A2n hd;refine key I U ?_ λf E=>?_
   .show(Gm (E1 c g).params d.sig.params).length<=2000;unfold Gm;rw[Aq9,V];have:=J.params.1;omega
   .obtain⟨a,b,_,hb,rfl⟩:=C3n E;exact((h.sm.decls.2 d a2).sig.params.2 b hb).name
  .rw[hh]at I |-;refine key I U (by rw[V];exact J.params.1) λf E=>?_;have E:f∈H9 (g.params.map (Param.subst (Ad g.A1) c.targs)):=E;unfold H9 at E;obtain⟨i,y,hy,a3,rfl⟩:=mem_mapIdx E;have W:=(Az.1 hy).1;rw[Bc]at W;have h2:=J.params.1;have Z:=B5s i (by omega);simp only[Vt,B6,Bg,Ca];unfold sm;omega
 .refine key I ?_ (by simp[Hd]) λf E=>by simp[Hd]at E
  have:=((A5h h.sm h.tl h.Ig.right (h.fd.sm.types.2 x O) (h.fd.types x O).args g L).mono (C:=1200000000) (by decide)).E4q;show(Jw g).length<=_;unfold sm;omega
omit h in
theorem C4q{k:Int}{n:A2}{fs:List Param}{ss:List A3}(J:n.length<=60000000*sm)(E:fs.length<=sm/\∀f,f∈fs->f.Sm)(I:ss.length<=sm/\∀g,g∈ss->g.Sm):(headD k n fs ss).Sm :=
 ⟨J,by simp[headD],E,I,by simp[headD],by simp[headD],⟨by simp[headD,Io],by simp[headD,Io],by simp[headD,Io],.mk _ _ _ (by simp) (by simp) (by simp)⟩,D1e⟩
theorem B0b{x:Ty}(E:x∈s.types):x.mg.length<=60000000*sm:=by have I:=Ty.Xv x;have J:=(h.fd.types x E).len;unfold sm;omega
theorem G9n{x:Ty}(E:x∈s.types):∀d,d∈H2 p s.calls x->d.Sm/\d.sig.params.length<=2000:=by
 intro d hd;have W:=DG.of h E d hd;rw[A5j (h.wf E)]at hd;rcases B1.1 hd with rfl|hd
 .have hz:(K9 p s x).sig=Io:=by unfold K9;split <;> rfl
  refine⟨?_,by rw[hz];simp[Io]⟩;by_cases J:Bh p x 1=true
  .have e:K9 p s x=headD 1 x.mg (J9 (Bx p x)) []:=by unfold K9;rw[A8 J]
   rw[e]at W |-;refine C4q (B0b h E) ⟨?_,λf Z=>⟨?_,C4n h (W.q.fields f Z)⟩⟩ (by simp)
   .unfold J9;rw[Bc];exact B2x h.sm x
   .obtain⟨y,hy,rfl⟩:=Au.1 Z;exact(B1r h.sm (h.fd.sm.types.2 x E) y hy).name
  .have e:K9 p s x=headD 2 x.mg [] (Vf p s x):=by unfold K9;rw[A6 J]
   have e2:Mz p s x=Vf p s x:=by unfold Mz;rw[A6 J]
   rw[e];refine C4q (B0b h E) (by simp) ⟨?_,λg hg=>(E0u h E (by rw[e2];exact hg) ?_).1⟩
   .unfold Vf;have h1:=D1t p s x;have h2:=E1x h.Xc x;have h3:=Ai3 (Hk p) (Lj p s x);rw[B6,Bc];unfold sm;omega
   .rcases Bz.1 hg with hg|hg
    .obtain⟨c,L,U⟩:=Ns.1 hg;exact SG.call h E L U
    .obtain⟨g',a3,rfl⟩:=Au.1 hg;exact SG.dum h E a3
 .have J:Bh p x 1=true:=by
   unfold Q1 at hd;split at hd
   .assumption
   .simp at hd
  have a2:d.sig∈Mz p s x:=by unfold Mz;rw[A8 J];exact List.mem_map_of_mem (f:=λd:Decl=>d.sig) hd
  obtain⟨m1,m2,m3,m4,m5⟩:=A2x h E hd;have a0:SG s d.sig:=by
   unfold Q1 at hd;rw[A8 J]at hd;rcases Bz.1 hd with hd|hd
   .obtain⟨c,L,U⟩:=Ns.1 hd;obtain⟨d',g,e1,e2,e3,e4,V⟩:=A0i h E J L;rw[U]at V;cases V;obtain⟨I,O,_,_⟩:=A2n e1;have hs:=SG.call h E L e3;refine⟨hs.name,rfl,λf Z=>?_,hs.result⟩;obtain⟨a,b,ha,hb,rfl⟩:=C3n Z;exact⟨(C4f h.Ig.right I O).2 b hb,(hs.params a ha).2⟩
   .obtain⟨g,hg,rfl⟩:=Au.1 hd;exact SG.dum h E hg
  obtain⟨s1,s2⟩:=E0u h E a2 a0;refine⟨?_,s2⟩;unfold Q1 at hd;rw[A8 J]at hd;rcases Bz.1 hd with hd|hd
  .obtain⟨c,L,U⟩:=Ns.1 hd;obtain⟨d',g,e1,e2,e3,e4,V⟩:=A0i h E J L;rw[U]at V;cases V;obtain⟨I,O,_,_⟩:=A2n e1;obtain⟨a4,a1⟩:=Th h E c L;obtain⟨b1,b2,b3⟩:=C0i h.Xc h.sm h.Ig.right I O a1;rw[a4]at b1 b2 b3;have a5:=(Prog.A7i p h.Xc).1 d' I;refine⟨B0b h E,by simp,by simp,by simp,(h.sm.decls.2 d' I).recv,by simp,s1,D9v (by decide) b2 b1 b3 λy hy=>?_⟩;obtain⟨z,hz,e⟩:=G7k hy;have:=D8w hz;rw[e];omega
  .obtain⟨g,hg,rfl⟩:=Au.1 hd;exact⟨B0b h E,by simp[Jy],by simp[Jy],by simp[Jy],by simp[Jy,sm],by simp[Jy],s1,.mk _ _ _ _ _ _ (by simp) (.mk _ _ _ (by decide) (by simp) (by simp)) (by simp) (by simp) (by simp) (by simp)⟩
theorem G9x:(Hi p s).Fit:=by
 have E:∀d,d∈(Hi p s).decls->d.Sm/\d.sig.params.length<=2000:=λd hd=>by
  rcases B1.1 hd with rfl|hd
  .exact⟨C4q (by decide) (by simp) (by simp),by simp[M9,headD,Io]⟩
  .obtain⟨x,I,hd⟩:=Ak8.1 hd;exact G9n h I d hd
 have Z:=F3x h;obtain⟨q1,W⟩:=D8m h.Xc h.sm h.Ig.right;have O:∀d,d∈(Hi p s).decls->d.A1=[]/\d.vars=[]/\d.sig.A1=[]/\∀g,g∈d.sigs->g.A1=[]:=λd hd=>by
  rcases B1.1 hd with rfl|hd
  .exact⟨rfl,rfl,rfl,by simp[M9,headD]⟩
  .obtain⟨x,I,hd⟩:=Ak8.1 hd;rw[A5j (h.wf I)]at hd;rcases B1.1 hd with rfl|hd
   .unfold K9;split
    .exact⟨rfl,rfl,rfl,by simp[headD]⟩
    .rename_i L;refine⟨rfl,rfl,rfl,λg J=>C4x h I ?_⟩;unfold Mz;rw[A6 L];exact J
   .obtain⟨m1,m2,m3,m4,m5⟩:=A2x h I hd;refine⟨m4,m3,m5,λg J=>?_⟩;have:d.sigs=[]:=by
     unfold Q1 at hd;split at hd
     .rename_i L;rcases Bz.1 hd with hd|hd
      .obtain⟨c,hc,V⟩:=Ns.1 hd;obtain⟨_,_,_,_,_,_,U⟩:=A0i h I L hc;rw[V]at U;cases U;rfl
      .obtain⟨g,_,rfl⟩:=Au.1 hd;rfl
     .simp at hd
    rw[this]at J;simp at J
 refine⟨⟨⟨by unfold sm;omega,λd hd=>(E d hd).1⟩,D9v (B:=240000) (by decide) h.sm.main q1 W λy hy=>?_⟩,Z,λd hd=>?_,λd hd=>by have:=(E d hd).2;unfold sm;omega⟩
 .have h1:=D8w hy;have h2:=(Prog.A7i p h.Xc).2;omega
 .obtain⟨f1,f2,f3,f4⟩:=O d hd;exact⟨λg J=>by rw[f1,f4 g J];simp,by rw[f2,f3];simp⟩
end
end Go.Abs
