/- the types of the set that castingsref21.Find returns are well formed, its calls typed -/
import Derived.Test.YtjneockcgjfhaaaGreatDoorKP28
import Derived.Test.YtjneockcgjfhaaaGreatDoorKW29
import Derived.Test.YtjneockcgjfhaaaGreatDoorKS97
set_option linter.all false
set_option maxHeartbeats 4000000
set_option maxRecDepth 100000
namespace Go.Abs
open Go
structure Typed(p:Prog):Prop where
 right:p.right=true
 head:HW p
 body:∀d,d∈p.decls->(U3 p true d).bad=false
 main:∃t,D6 (Ss p) p.main=(t,none)
theorem Typed.of{p:Prog}(hr:p.right=true)(E:(A5v p true).bad=false):Typed p:=by have I:=λk d J=>D3n (l:=p.decls) (i:=0) E k d J;refine⟨hr,λi d hd=>by grind,λd hd=>?_,?_⟩;grind[List.getElem?_of_mem];have L:=D4x (l:=p.decls) (i:=0) E;exact⟨_,lax ⟨p,true,[],[]⟩ p.main _ (B8s L)⟩
theorem A7d(t:Ty):Ct [] t=none:=by grind[Ct]
theorem C3i{p:Prog}{t:Ty}(h:Bx p [] t=none):kindOf p t.name≠0/\(Ey p t.name).length=t.args.length/\(∀u,u∈t.args->Bx p [] u=none)/\Hi p [] (Ey p t.name) t.args<0:=by grind[B0d,A7d]
theorem B6c{p:Prog}{t:Ty}(h:Bx p [] t=none):Bb p t 1=true\/Bb p t 2=true:=by obtain⟨E,I,_⟩:=C3i h;obtain⟨d,hd,J,_⟩:=A7n E;have:=(A9j hd).1;unfold Bb;grind
section
variable {p:Prog}
theorem sbD(hr:p.right=true)(Z:HW p){x:Ty}(hx:Bx p [] x=none){d:Decl}(hd:Fk p x.name=some d):Sb p d.A1 [] (Ad d.A1) x.args/\∀u,u∈x.args->Bx p [] u=none:=by
 have hp:=A1p hr Z;obtain⟨h1,h2,W,h4⟩:=C3i hx;obtain⟨d',J,_,L⟩:=A7n h1;rw[hd]at J;cases J;obtain⟨t1,t2⟩:=A3i (Zq Z hd).1;rw[L]at h2 h4;have E:∀n,n∈Ad d.A1->kindOf p n=0/\¬P6 n:=λn O=>by
  obtain⟨f,U,rfl⟩:=Au.1 O;obtain⟨i,hi⟩:=Pu U;refine⟨(t1 i f hi).1,A9k ?_⟩;have I:d.right=true:=by unfold Prog.right at hr;simp at hr;exact hr.1 d (A9j hd).2.2
  unfold Decl.right at I;simp only[Qg,Bi,Dr]at I;grind
 refine⟨⟨rfl,by simp[Ad,h2],E,by simp[Ad],λu V=>(A0y (W u V)).mono λn O=>O.elim (by simp[Ad]) (hp.name n),λf L=>by grind,λi f u L V=>Wp.1 h4 i f u L V⟩,W⟩
theorem D0y(hr:p.right=true)(I:HW p){x:Ty}(J:Bx p [] x=none){f:Param}(E:f∈Bo p x):Bx p [] f.type=none:=by unfold Bo at E;split at E;rename_i V;obtain⟨d,hd,U,_⟩:=N4 (by decide) V;rw[hd,Dh]at E;unfold fieldsD at E;obtain⟨y,L,rfl⟩:=Au.1 E;obtain⟨sb,O⟩:=sbD hr I J hd;exact A0s (A1p hr I) sb O ((Zq I hd).2.1 U y L);grind
theorem F2q(hr:p.right=true)(hw:HW p){x:Ty}(hx:Bx p [] x=none){I:Decl}(L:Fk p x.name=some I)(hk:I.kind=2){E:A4}(a3:E∈I.sigs){targs:List Ty}(a8:E.A1.length=targs.length)
  (ht:∀t,t∈targs->Bx p [] t=none)(hb:Hi p [] (E.canon.subst (Ad I.A1) x.args).A1 targs<0) :
  Sb p (I.A1++E.A1) [] (Ad I.A1++Ad E.A1) (x.args++targs)/\(∀u,u∈x.args++targs->Bx p [] u=none) /\
  ∀b:Ty,Bx p (I.A1++E.A1) b=none->((b.subst (Ad E.A1) (D7 E.A1.length)).subst (Ad I.A1) x.args).subst (Ad E.canon.A1) targs=b.subst (Ad I.A1++Ad E.A1) (x.args++targs):=by
 have hp:=A1p hr hw;obtain⟨sb,a'⟩:=sbD hr hw hx L;obtain⟨s1,s2,s3⟩:=Z4 ((Zq hw L).2.2 hk E a3);obtain⟨f1,f2⟩:=A3i s1;have a0:(Ad I.A1).length=x.args.length:=sb.len.symm;have a6:∀u,u∈x.args++targs->Bx p [] u=none:=λu O=>(C6.1 O).elim (a' u) (ht u);have a4:∀u,u∈x.args++targs->u.Lf λn=>¬P6 n:=λu O=>(A0y (a6 u O)).mono λn hn=>hn.elim (by simp[Ad]) (hp.name n);have ab:(Ad E.A1).length=E.A1.length:=by simp[Ad]
 have a5:∀m,m∈Ad I.A1->m∉Ad E.A1:=λm hm hf=>by obtain⟨f,aa,af⟩:=Au.1 hf;grind[List.getElem?_of_mem]
 have a2:Ad E.canon.A1=(List.range E.A1.length).map Dc:=by rw[(A7m E).fs];simp[A4.canon,H4]
 have W:∀b:Ty,Bx p (I.A1++E.A1) b=none->((b.subst (Ad E.A1) (D7 E.A1.length)).subst (Ad I.A1) x.args).subst (Ad E.canon.A1) targs=b.subst (Ad I.A1++Ad E.A1) (x.args++targs):=λb hb =>
  D3j (K:=λn=>kindOf p n≠0) ab a8.symm a0 a2 a5 (λm hm=>(sb.fresh m hm).2) hp.name (λu O=>a4 u (At5 _ O)) b ((A0y hb).mono λn hn=>by grind[Ad])
 have ah:∀f,f∈E.A1->isName f.name=true:=λf hf=>by
  have Z:I.right=true:=by unfold Prog.right at hr;simp at hr;exact hr.1 I (A9j L).2.2
  unfold Decl.right at Z;simp at Z;have:=Z.2.2.2.1 E a3;simp only[A4.right,Qg,Bi,Dr]at this;grind
 have J:∀n,n∈Ad I.A1++Ad E.A1->kindOf p n=0/\¬P6 n:=λn hn=>by rcases C6.1 hn with h|h;exact sb.fresh n h;obtain⟨f,aa,rfl⟩:=Au.1 h;grind[List.getElem?_of_mem,A9k]
 have U:Ad (I.A1++E.A1)=Ad I.A1++Ad E.A1:=by unfold Ad;rw[Hc]
 obtain⟨t1,t2⟩:=A3i (Zq hw L).1;have a1:∀n,n∈Ad (I.A1++E.A1)->kindOf p n=0:=λn hn=>(J n (by grind)).1;refine⟨⟨U.symm,by grind,J,by simp[Ad],a4,λf hf=>?_,λi f u hf O=>?_⟩,a6,W⟩
 .rcases C6.1 hf with hf|hf;have V:=(t2 f hf).2;simp at V;unfold isIface at V |-;rw[Bi]at V |-;refine⟨V.1,?_⟩;rw[B1o a1 (by grind[R3])];rfl
  grind
 .by_cases ai:i<I.A1.length;rw[N0 (by omega)]at hf;rw[N0 (by grind[Ad])]at O;have a9:=sb.bnd i f u hf O;refine R9 a9 (Rk ?_);rw[G6m a0 ((hp.bnd _ I L f (Bm hf)).mono λn hn=>hn.imp_right λh hm=>h (by grind))]
  .rw[Ma (by omega)]at hf;have ac:x.args.length=I.A1.length:=by rw[<-a0];simp[Ad]
   rw[Ma (by omega),ac]at O;have ae:=Bm hf;have ad:(E.canon.subst (Ad I.A1) x.args).A1[i - I.A1.length]?=some ⟨Dc (i - I.A1.length),(f.bound.subst (Ad E.A1) (D7 E.A1.length)).subst (Ad I.A1) x.args,f.pos⟩:=by have a7:=(Aw.1 hf).1;simp only[A4.subst,A4.canon,H4];rw[Db,S5,hf];simp only[Ef,Ak.subst,A6 a7]
   have:=Wp.1 hb _ _ u ad O;simp only at this;have ag:Ad (E.canon.subst (Ad I.A1) x.args).A1=Ad E.canon.A1:=by simp only[A4.subst,Ad,Dw];rfl
   grind
theorem E1i(hr:p.right=true)(Z:HW p){x:Ty}(hx:Bx p [] x=none){g:A4}(V:g∈Cv p [] x){targs:List Ty}(I:g.A1.length=targs.length)(ht:∀t,t∈targs->Bx p [] t=none)(hb:Hi p [] g.A1 targs<0) :Bx p [] (g.result.subst (Ad g.A1) targs)=none/\∀q,q∈g.params->Bx p [] (q.type.subst (Ad g.A1) targs)=none:=by
 have hp:=A1p hr Z;rcases B6c hx with hi|hi
 .obtain⟨d,d1,d2,d3,d4,rfl,d6⟩:=Ze hi V;have U:d.sig.A1.length=targs.length:=by rw[<-I];simp[A4.subst,A4.canon,H4]
  have E:=called hr Z d1 d2 hx hi d3 U ht hb;obtain⟨_,_,_,m4⟩:=A7w Z d1 d2;obtain⟨_,c2,c3⟩:=Z4 m4;have J:Ad (d.sig.canon.subst d.vars x.args).A1=Ad d.sig.canon.A1:=by simp only[A4.subst,Ad,Dw];rfl
  rw[J];refine⟨?_,λq W=>?_⟩;show Bx p [] (((d.sig.result.subst (Ad d.sig.A1) (D7 d.sig.A1.length)).subst d.vars x.args).subst (Ad d.sig.canon.A1) targs)=none;rw[E.inst _ c3];exact A0s hp E.sb E.wf c3;simp only[A4.subst,A4.canon,Hr,Au]at W;obtain⟨q1,L,rfl⟩:=W;obtain⟨i,f,hf,_,rfl⟩:=mem_mapIdx L;have hc:=c2 f (Bm hf);show Bx p [] (((f.type.subst (Ad d.sig.A1) (D7 d.sig.A1.length)).subst d.vars x.args).subst (Ad d.sig.canon.A1) targs)=none;rw[E.inst _ hc];exact A0s hp E.sb E.wf hc
 .have a0:isIface p [] x=true:=by unfold isIface;rw[hi,A7d];rfl
  rw[B1x a0]at V;unfold H2 at V;rw[A6 hi]at V;obtain⟨d,hd,hk,_⟩:=N4 (by decide) hi;rw[hd,Dh]at V;unfold Wm Ic at V;obtain⟨⟨y,i⟩,hy,rfl⟩:=Au.1 V;have O:=Mt (Vt (Kr.1 hy).1);simp only at O I hb |-;have U:y.A1.length=targs.length:=by rw[<-I];simp[A4.subst,A4.canon,H4]
  obtain⟨sb,wf,inst⟩:=F2q hr Z hx hd hk O U ht hb;obtain⟨_,c2,c3⟩:=Z4 ((Zq Z hd).2.2 hk y O);have J:Ad (y.canon.subst (Ad d.A1) x.args).A1=Ad y.canon.A1:=by simp only[A4.subst,Ad,Dw];rfl
  rw[J];refine⟨?_,λq W=>?_⟩;show Bx p [] (((y.result.subst (Ad y.A1) (D7 y.A1.length)).subst (Ad d.A1) x.args).subst (Ad y.canon.A1) targs)=none;grind[A0s];simp only[A4.subst,A4.canon,Hr,Au]at W;obtain⟨q1,L,rfl⟩:=W;obtain⟨j,f,hf,_,rfl⟩:=mem_mapIdx L;have hc:=c2 f (Bm hf);show Bx p [] (((f.type.subst (Ad y.A1) (D7 y.A1.length)).subst (Ad d.A1) x.args).subst (Ad y.canon.A1) targs)=none;grind[A0s]
theorem D3a(hr:p.right=true)(V:HW p){st:Bool}{vars:List Param}(I:∀f,f∈vars->Bx p [] f.type=none):∀(e:Ex)(t:Ty),D6 ⟨p,st,[],vars⟩ e=(t,none)->Bx p [] t=none:=by intro e;induction e using Ex.induct with|_ e U=>?_;intro t h;rcases Jr.1 h with⟨_,k,f,_,L,rfl⟩|⟨_,E,_,_,rfl⟩|⟨v,vs,x,O,J,h⟩;grind;exact E;grind[A0t,E1i,D0y]
theorem C5n{c:D8}{e:Ex}{t:Ty}(J:e.One)(ht:D6 c e=(t,none)):∀x,x∈e.kids->∃K,D6 c x=(K,none):=by
 have key:∀(U:List Ty) (es:List Ex),V8 c U es->∀x,x∈es->∃K,D6 c x=(K,none):=λU es I x E=>by
  obtain⟨i,V⟩:=Pu E;have O:i<U.length:=by rw[I.1];exact(Aw.1 V).1
  obtain⟨K,hk,_⟩:=I.2 i _ x (Br O) V;grind
 rcases Jr.1 ht with⟨k1,_⟩|⟨_,_,_,I,_⟩|⟨v,vs,x,L,E,W⟩;intro x E;rw[J.out.1.1 k1]at E;grind;grind;intro y hy;rw[L]at hy;rcases B5.1 hy with rfl|hy;grind;rcases W with⟨_,s,_,I,_⟩|⟨k4,_⟩|⟨Z,_⟩;grind;have:=J.out.1.2 (.inl k4);grind;have:=J.out.1.2 (.inr Z);grind
theorem C5q{c:D8}{e:Ex}{t:Ty}(I:e.One)(ht:D6 c e=(t,none)):∀y,y∈Cj e->y.One/\∃K,D6 c y=(K,none) :=A8y (Q:=λy=>y.One/\∃K,D6 c y=(K,none)) (λe h x E=>⟨h.1.out.2 x E,by grind[C5n]⟩) e ⟨I,t,ht⟩
theorem F7j{vars:List Param}(v:List A2)(a:List Ty)(nm:A2):I2 (vars.map (Param.subst v a)) nm=I2 vars nm:=by unfold I2 Cw;rw[List.findIdx?_map];rfl
theorem F0g{env env':List Ak}{v:List A2}{a:List Ty}(L:PW p)(sb:Sb p env env' v a)(O:∀u,u∈a->Bx p env' u=none){st:Bool}{vars:List Param} :∀(e:Ex) (t:Ty),D6 ⟨p,st,env,vars⟩ e=(t,none)->∃J,D6 ⟨p,false,env',vars.map (Param.subst v a)⟩ (e.subst v a)=(J,none)/\Cg p env' J (t.subst v a)=true:=by
 intro e;induction e using Ex.induct with|_ e V=>?_;intro t h;by_cases k1:e.kind=1
 .rcases Jr.1 h with⟨_,k,f,I,E,rfl⟩|⟨h3,_⟩|⟨_,_,_,_,_,h3|h3|h3⟩;refine⟨f.type.subst v a,Jr.2 (.inl ⟨by rw[N2];exact k1,k,Param.subst v a f,?_,?_,rfl⟩),B7e _ _ _⟩;show I2 (vars.map (Param.subst v a)) (e.subst v a).name=k;rw[F7j,N2];exact I;grind;all_goals omega
 refine C6i L sb O (vars:=vars) (e:=e) (by rw[N2];rfl) (by rw[N2];rfl) (by rw[N2];rfl) (by rw[N2];rfl) (by rw[N2];simp[Ex.kids]) k1 h ?_;intro i k U K I E h3;rw[N2]at E;have E:(e.kids.map (Ex.subst v a))[i]?=some U:=E;grind
structure Ux(p:Prog)(c:B8):Prop where
 on:Bx p [] c.on=none
 targs:∀t,t∈c.targs->Bx p [] t=none
 sig:∃g,g∈Cv p [] c.on/\g.name=c.name/\g.A1.length=c.targs.length/\Hi p [] g.A1 c.targs<0
structure Am.Gd(p:Prog)(s:Am):Prop where
 types:∀t,t∈s.types->Bx p [] t=none
 calls:∀c,c∈s.calls->Ux p c
theorem Am.Gd.lg{s:Am}(h:s.Gd p)(b:Bool):Am.Gd p { s with D9:=b }:=⟨h.types,h.calls⟩
theorem B1k{s:Am}(hs:s.Gd p){x:Ty}(E:Bx p [] x=none):(Gr s x).Gd p:=by unfold Gr;split;exact⟨hs.types,hs.calls⟩;refine⟨λt ht=>?_,hs.calls⟩;rcases(A4a (cmp:=E6) (x:=x) s.types).2 t ht with rfl|h;exact E;exact hs.types t h
theorem E8i{s:Am}(hs:s.Gd p){x:B8}(E:Ux p x):(Gp s x).Gd p:=by unfold Gp;split;exact⟨hs.types,hs.calls⟩;refine⟨hs.types,λt ht=>?_⟩;rcases(A4a (cmp:=Dk) (x:=x) s.calls).2 t ht with rfl|h;exact E;exact hs.calls t h
theorem G3o(hr:p.right=true)(hw:HW p){vars:List Param}(L:∀f,f∈vars->Bx p [] f.type=none){y v:Ex}{vs:List Ex}{t x:Ty}(ht:D6 ⟨p,false,[],vars⟩ y=(t,none))(h2:y.kind=2)(hk:y.kids=v::vs)(J:D6 ⟨p,false,[],vars⟩ v=(x,none)):Ux p ⟨x,y.name,y.targs⟩:=by rcases Jr.1 ht with⟨h,_⟩|⟨h,_⟩|⟨v',Z,x',I,E,h⟩;omega;omega;rw[hk]at I;cases I;rw[J]at E;cases E;rcases h with⟨_,s,hs,_⟩|⟨h,_⟩|⟨h,_⟩;obtain⟨O,W,V,U,s5,_⟩:=A0t.1 hs;exact⟨D3a hr hw L v x J,U,s,O,W,V,s5⟩;all_goals omega
theorem E3a(hr:p.right=true)(J:HW p){vars:List Param}(E:∀f,f∈vars->Bx p [] f.type=none){e:Ex}{t:Ty}(L:e.One)(ht:D6 ⟨p,false,[],vars⟩ e=(t,none)){s:Am}(hs:s.Gd p):(Nk p s e vars).Gd p:=by refine foldI _ (λs y O hs=>?_) hs;obtain⟨_,K,U⟩:=C5q L ht y O;unfold L0;split;grind[B1k,Jr];split;rename_i k2;split;exact hs;rename_i v vs V;unfold U6;split;exact⟨hs.types,hs.calls⟩;rename_i W;have I:=B8s (c:=⟨p,false,[],vars⟩) (e:=v) (by grind);exact E8i (B1k (hs.lg _) (D3a hr J E v _ I)) (G3o hr J E U k2 V I);omega
theorem E2v{g I:A4}(h:g.er=I.er){a:List Ty}(V:Hi p [] I.A1 a<0):Hi p [] g.A1 a<0:=by
 obtain⟨_,O,_⟩:=A2f h;have hn:Ad g.A1=Ad I.A1:=by rw[<-Yk g.A1,O,Yk]
 refine Wp.2 λi f u J hu=>?_;obtain⟨U,E,Z⟩:=Zo O J;have L:=Wp.1 V i U u E hu;refine R9 L (Rk ?_);have W:U.bound.er=f.bound.er:=by have:=Gf Ak.bound Z;simpa [Ak.er]using this
 grind[Hq]
theorem D8m{x:Ty}{c:B8}(V:Ux p c){g:A4}(h:Mo p x c=some g):g∈Cv p [] x/\g.name=c.name/\g.A1.length=c.targs.length/\Cg p [] x c.on=true/\Hi p [] g.A1 c.targs<0:=by
 unfold Mo at h;split at h;cases h;rename_i W;split at h;cases h;rename_i g' E;split at h
 .rename_i I;cases h;have L:=Pd.1 (Bm E);have J:g.name=c.name:=by unfold F5 at E W;rcases Lo (λs:A4=>decide (s.name=c.name)) (Cd p [] x)with⟨O,_⟩|⟨j,y,O,h2,h3⟩;omega;grind
  refine⟨L,J,I.1,I.2,?_⟩;obtain⟨Z,m0,n0,_,b0⟩:=V.sig;obtain⟨s',U,es⟩:=A9h I.2 Z m0;have:s'=g:=A3e (A9x p [] x) U L (by rw[J,<-n0];have:=Gf A4.name es;simpa [A4.er]using this);grind[E2v]
 grind
theorem C3g(L:Typed p){x:Ty}(hx:Bx p [] x=none){c:B8}(hc:Ux p c){g:A4}(h:Mo p x c=some g){d:Decl}(hd:Ga p x c.name=some d) :d∈p.decls/\d.kind=3/\g=d.sig.canon.subst d.vars x.args/\D1o p d x c.targs/\(∀f,f∈P2 p d x c->Bx p [] f.type=none) /\∃t,D6 ⟨p,false,[],P2 p d x c⟩ (Jd d x c)=(t,none)/\Cg p [] t (d.sig.result.subst (Ny d) (Ka x c))=true:=by
 have W:=A1p L.right L.head;obtain⟨g1,g2,g3,g4,g5⟩:=D8m hc h;obtain⟨J,V,hi,_⟩:=A2c hd;obtain⟨d',_,_,d3,_,he,O⟩:=Ze hi g1;rw[g2,hd]at O;cases O;subst he;have Z:d.sig.A1.length=c.targs.length:=by rw[<-g3];simp[A4.subst,A4.canon,H4]
 have E:=called L.right L.head J V hx hi d3 Z hc.targs g5;obtain⟨_,_,_,m4⟩:=A7w L.head J V;obtain⟨_,c2,c3⟩:=Z4 m4;have I:=L.body d J;unfold U3 at I;rw[A6 V]at I;unfold Ua at I;have U:(Df (Jz p true d) d.body).2.bad=false/\Cg p (Hk p d++d.sig.A1) (Df (Jz p true d) d.body).1 d.sig.result=true:=by split at I;cases I;grind[Jz]
 obtain⟨t',k1,k2⟩:=F0g W E.sb E.wf (st:=true) (vars:=(Jz p true d).vars) d.body _ (B8s U.1);refine⟨J,V,rfl,E,λf hf=>?_,t',k1,R9 k2 (B4h W E.sb U.2)⟩;obtain⟨q,hq,rfl⟩:=Au.1 hf;rcases B5.1 hq with rfl|hq;exact C1y E.self.symm hx;exact A0s W E.sb E.wf (c2 q hq)
theorem C8u{d:Decl}(h:d.body.One)(x:Ty)(c:B8):(Jd d x c).One:=Ex.One.subst _ _ h
theorem G4h(E:Typed p){x:Ty}(J:Bx p [] x=none){s:Am}(hs:s.Gd p){c:B8}(I:Ux p c):(Ks p x s c).Gd p:=by unfold Ks;split;exact hs;rename_i g h;obtain⟨W,g2,Z,g4,g5⟩:=D8m I h;obtain⟨w1,w2⟩:=E1i E.right E.head J W Z I.targs g5;have O:(Gr (Kg s (Wj g c)) (Vu g c)).Gd p:=B1k (foldI _ (λs t ht h=>by obtain⟨q,hq,rfl⟩:=Au.1 ht;exact B1k h (w2 q hq)) hs) w1;unfold S6;rcases B5v p x c.name with⟨L,_⟩|⟨j,d,L,hd,hm⟩;grind;rw[L,A3 (by omega),Hx,hd];simp only;obtain⟨V,b2,_,_,b3,t,U,_⟩:=C3g E J I h hm;exact E3a E.right E.head b3 (C8u ((A7g E.right).1 d V b2) x c) U O
theorem G0t(I:Typed p){s:Am}(hs:s.Gd p):(Li p s).Gd p:=by refine foldI _ (λo x J E=>foldI _ (λo c O E=>G4h I (hs.types x J) E (hs.calls c O)) ?_) hs;split;refine foldI _ (λs t ht h=>?_) E;obtain⟨f,L,rfl⟩:=Au.1 ht;exact B1k h (D0y I.right I.head (hs.types x J) L);omega
theorem E1c(E:Typed p):∀(k:Nat) {s:Am} (n:Int),s.Gd p->(Iq p k s n).1.Gd p
 |0,_,_,_=>⟨by simp[Iq],by simp[Iq]⟩
 |k+1,s,n,h=>by have I:Am.Gd p Tt:=⟨by simp,by simp⟩;rw[Iq];split;grind;split;exact I;exact E1c E k _ (G0t E h)
theorem F1c(E:Typed p):(Kt p).1.Gd p:=by obtain⟨t,ht⟩:=E.main;exact E1c E _ _ (E3a E.right E.head (by simp) (A7g E.right).2 ht ⟨by simp,by simp⟩)
end
end Go.Abs
/- names of instances are different: what a name was made of can be read from it -/
namespace Go.Abs
open Go
def G8:A2->List (UInt8 × Bool)
 |[]=>[]
 |[c]=>[(c,false)]
 |a::b::r=>if a=95 then(if b=95 then(95,false)::G8 r else(b,true)::G8 r)else(a,false)::G8 (b::r)
abbrev U8(n:A2):List (UInt8 × Bool):=n.map λc=>(c,false)
theorem D7z{c:UInt8}(h:c≠95)(s:A2):G8 (c::s)=(c,false)::G8 s:=by
 cases s with
 |nil=>rfl
 |cons b r=>rw[G8,A3 h]
theorem A7z{c:UInt8}(h:c≠95)(s:A2):G8 (95::c::s)=(c,true)::G8 s:=by rw[G8,A6 rfl,A3 h]
theorem C5g(n s:A2):G8 (Dt n++s)=U8 n++G8 s:=by
 induction n with
 |nil=>rfl
 |cons c n E =>rw[show Dt (c::n)=(if c=95 then[95,95]else[c])++Dt n by rfl,H8,show U8 (c::n)=(c,false)::U8 n from rfl,Nj,<-E];by_cases h:c=95;subst h;rfl;rw[A3 h];exact D7z h _
theorem F5d{n:A2}(h:∀c,c∈n->c≠95)(s:A2):G8 (n++s)=U8 n++G8 s:=by
 induction n with
 |nil=>rfl
 |cons c n E =>grind[D7z]
def Wb:List (List (UInt8 × Bool))->List (UInt8 × Bool)
 |[]=>[]
 |[x]=>x
 |x::y::r=>x++(67,true)::Wb (y::r)
mutual
def Ty.tk:Ty->List (UInt8 × Bool)
 |.mk n a _=>if n.head? =some 36/\a.isEmpty=true then(86,true)::U8 (n.drop 1)else U8 n++(if a.isEmpty=true then[]else(76,true)::(Wb (Ty.tkL a)++[(82,true)]))
def Ty.tkL:List Ty->List (List (UInt8 × Bool))
 |[]=>[]
 |t::E=>t.tk::Ty.tkL E
end
theorem Ty.D5w:∀l:List Ty,Ty.tkL l=l.map Ty.tk
 |[]=>rfl
 |t::E=>by rw[Ty.tkL,Ty.D5w E,Cp]
def Uj(l:List Ty):List (UInt8 × Bool):=if l=[]then[]else(76,true)::(Wb (l.map Ty.tk)++[(82,true)])
theorem Ty.X1(t:Ty):t.tk=if t.name.head? =some 36/\t.args=[]then(86,true)::U8 (t.name.drop 1)else U8 t.name++Uj t.args:=by obtain⟨n,a,q⟩:=t;grind[Ty.tk,Ty.D5w,Ty.name,Ty.args,Uj]
theorem G2e(i:Nat):∀c,c∈Lib.decDigits i->c≠95:=by induction i using Nat.strongRecOn with|_ u I=>?_;intro c hc;rw[Lib.decDigits]at hc;split at hc;rename_i h;rw[Qp.1 hc];intro E;have:=Gf UInt8.toNat E;simp at this;omega;rename_i h;rcases C6.1 hc with hc|hc;grind;rw[Qp.1 hc];intro E;have:=Gf UInt8.toNat E;simp at this;omega
theorem D3f:∀(l:List Ty)(s:A2),(∀t,t∈l->∀r,G8 (t.mg++r)=t.tk++G8 r)->G8 (Lib.join (l.map Ty.mg) Q2++s)=Wb (l.map Ty.tk)++G8 s
 |[],s,_=>by rfl
 |[x],s,h=>by rw[show Lib.join ([x].map Ty.mg) Q2=x.mg by simp[Lib.join_cons,Lib.joinTail]];exact h x (by simp) s
 |x::y::r,s,h=>by
  have E:=D3f (y::r) s λt ht=>h t (by grind);have e:Lib.join ((x::y::r).map Ty.mg) Q2=x.mg++(Q2++Lib.join ((y::r).map Ty.mg) Q2):=by simp[Lib.join_cons,Lib.joinTail]
  rw[e,H8,h x (by simp)];show x.tk++G8 (95::67::(Lib.join ((y::r).map Ty.mg) Q2++s))=_;grind[A7z,Wb]
theorem E0e{l:List Ty}(h:∀t,t∈l->∀r,G8 (t.mg++r)=t.tk++G8 r)(s:A2):G8 (H7 l++s)=Uj l++G8 s:=by unfold H7 Uj;by_cases E:l=[];grind;rw[A3 E,A3 E];show G8 (95::76::(Lib.join (l.map Ty.mg) Q2++[95,82]++s))=_;grind[D3f,G8]
theorem A4q:∀{t:Ty},t.Mg->∀s,G8 (t.mg++s)=t.tk++G8 s:=by
 intro t ht
 induction ht with
 |loc i p O =>intro s;rw[Ty.Yv,Ty.X1,A6 ⟨rfl,rfl⟩,A6 ⟨rfl,rfl⟩];simp only[Dc,Ty.name,Tk,Am1,Zu];grind[A7z,F5d,G2e]
 |Ph n a p I V L U J =>
  intro s;have E:¬((Ty.mk n a p).name.head? =some 36/\(Ty.mk n a p).args=[]):=λh=>A5u I h.1;rw[Ty.Yv,Ty.X1,A3 E,A3 E,H8,C5g,H8]
  congr 1
  exact E0e (l:=a) (λt ht r=>J t ht r) s
def Sep(r:List (UInt8 × Bool)):Prop:=r=[]\/∃c E,r=(c,true)::E/\c≠76
theorem A6i:∀{n m:A2} {r1 r2:List (UInt8 × Bool)},(r1=[]\/∃c E,r1=(c,true)::E)->(r2=[]\/∃c E,r2=(c,true)::E)->U8 n++r1=U8 m++r2->n=m/\r1=r2
 |[],[],r1,r2,_,_,h=>⟨rfl,h⟩
 |[],c::m,r1,r2,I,_,h=>by grind
 |c::n,[],r1,r2,_,J,h=>by grind
 |c::n,d::m,r1,r2,I,J,h=>by simp at h;obtain⟨O,L⟩:=A6i I J h.2;grind
theorem Sep.C2h{r:List (UInt8 × Bool)}(h:Sep r):r=[]\/∃c E,r=(c,true)::E:=h.imp id λ⟨c,E,h,_⟩=>⟨c,E,h⟩
theorem A7j{l:List Ty}{r:List (UInt8 × Bool)}(h:Sep r):Uj l++r=[]\/∃c E,Uj l++r=(c,true)::E:=by unfold Uj;split;exact h.C2h;simp
theorem C6f:∀{a b:List Ty} {r1 r2:List (UInt8 × Bool)},a≠[]->b≠[]->(∀t,t∈a->∀u:Ty,u.Mg->∀r1 r2,Sep r1->Sep r2->t.tk++r1=u.tk++r2->t.er=u.er/\r1=r2)->(∀u,u∈b->u.Mg) ->Wb (a.map Ty.tk)++(82,true)::r1=Wb (b.map Ty.tk)++(82,true)::r2->a.map Ty.er=b.map Ty.er/\r1=r2
 |[x],[y],r1,r2,_,_,E,I,h=>by
  obtain⟨U,J⟩:=E x (by simp) y (I y (by simp)) _ _ (.inr ⟨82,r1,rfl,by decide⟩) (.inr ⟨82,r2,rfl,by decide⟩) h
  grind
 |[x],y::O::b,r1,r2,_,_,E,I,h=>by
  simp only[Cp,It,Wb,H8,Nj]at h;obtain⟨_,J⟩:=E x (by simp) y (I y (by simp)) _ _ (.inr ⟨82,r1,rfl,by decide⟩) (.inr ⟨67,_,rfl,by decide⟩) h
  grind
 |x::L::a,[y],r1,r2,_,_,E,I,h=>by
  simp only[Cp,It,Wb,H8,Nj]at h;obtain⟨_,J⟩:=E x (by simp) y (I y (by simp)) _ _ (.inr ⟨67,_,rfl,by decide⟩) (.inr ⟨82,r2,rfl,by decide⟩) h
  grind
 |x::L::a,y::O::b,r1,r2,_,_,E,I,h=>by
  rw[Cp,Cp,Cp,Cp,Wb,Wb,H8,H8,Nj,Nj]at h;obtain⟨U,J⟩:=E x (by simp) y (I y (by simp)) _ _ (.inr ⟨67,_,rfl,by decide⟩) (.inr ⟨67,_,rfl,by decide⟩) h;simp at J;rw[<-Cp (f:=Ty.tk),<-Cp (f:=Ty.tk)]at J;obtain⟨W,V⟩:=C6f (a:=L::a) (b:=O::b) (by simp) (by simp) (λt ht=>E t (by grind)) (λu Z=>I u (by grind)) J
  grind
theorem C7a:∀{t:Ty},t.Mg->∀u:Ty,u.Mg->∀r1 r2,Sep r1->Sep r2->t.tk++r1=u.tk++r2->t.er=u.er/\r1=r2:=by
 intro t ht
 induction ht with
 |loc i p hi =>
  intro u U r1 r2 I L h;rw[Ty.X1,A6 ⟨rfl,rfl⟩]at h;cases U with
  |loc j q hj =>rw[Ty.X1,A6 ⟨rfl,rfl⟩]at h;simp only[Nj,An7,Qo]at h;obtain⟨O,E⟩:=A6i I.C2h L.C2h h;grind[Ia,Ty.name,Ty.args,Dc]
  |Ph n a q k1 k2 k3 k4 =>rw[Ty.X1,A3 λh=>A5u k1 h.1]at h;grind[B2v,Ty.name]
 |Ph n a p k1 k2 k3 k4 ih =>
  intro u U r1 r2 I L h;rw[Ty.X1,A3 λh=>A5u k1 h.1]at h;cases U with
  |loc j q hj =>rw[Ty.X1,A6 ⟨rfl,rfl⟩]at h;grind[B2v,Ty.name]
  |Ph m b q l1 l2 l3 l4 =>
   rw[Ty.X1,A3 λh=>A5u l1 h.1,H8,H8]at h;obtain⟨O,E⟩:=A6i (A7j I) (A7j L) h;simp only[Ty.name,Ty.args]at O E;subst O;rw[Ia,Ia];simp only[Ty.name,Ty.args];unfold Uj at E;by_cases V:a=[]
   .rw[A6 V]at E;by_cases J:b=[];grind
    .rw[A3 J]at E;rcases I with rfl|⟨c,W,rfl,Z⟩;all_goals grind
   .rw[A3 V]at E;by_cases J:b=[]
    .rw[A6 J]at E;rcases L with rfl|⟨c,W,rfl,Z⟩;all_goals grind
    rw[A3 J]at E;simp at E;grind[C6f]
theorem D2u{t u:Ty}(ht:t.Mg)(I:u.Mg)(h:t.mg=u.mg):t.er=u.er:=by have E:=A4q ht [];have J:=A4q I [];rw[h]at E;rw[J]at E;exact(C7a ht u I [] [] (.inl rfl) (.inl rfl) (by simp_all)).1
theorem C0w(n:A2){l:List Ty}(E:∀t,t∈l->t.Mg)(s:A2):G8 (Dg n l++s)=U8 n++Uj l++G8 s:=by grind[Dg,C5g,E0e,A4q]
theorem E3f{n m:A2}{a b:List Ty}(U:∀t,t∈a->t.Mg)(L:∀t,t∈b->t.Mg)(h:Dg n a=Dg m b):n=m/\a.map Ty.er=b.map Ty.er:=by have J:=C0w n U [];have Z:=C0w m L [];rw[h,Z]at J;simp only[H8,G8]at J;have O:Sep []:=.inl rfl;obtain⟨W,I⟩:=A6i (A7j O) (A7j O) J.symm;refine⟨W,?_⟩;simp at I;unfold Uj at I;by_cases V:a=[];grind;by_cases E:b=[];grind;rw[A3 V,A3 E]at I;simp only[An7,Qo]at I;exact(C6f (r1:=[]) (r2:=[]) V E (λt ht=>C7a (U t ht)) L I).1
def W8(l:List (Ty × UInt8)):List (UInt8 × Bool):=l.flatMap λz=>z.1.tk++[(z.2,true)]
theorem E2u:∀{a b:List (Ty × UInt8)},(∀z,z∈a->z.1.Mg/\z.2≠76)->(∀z,z∈b->z.1.Mg/\z.2≠76)->W8 a=W8 b->a.map (λz=>(z.1.er,z.2))=b.map (λz=>(z.1.er,z.2))
 |[],[],_,_,_=>rfl
 |[],y::b,_,_,h=>by simp[W8]at h
 |x::a,[],_,_,h=>by simp[W8]at h
 |x::a,y::b,I,E,h=>by unfold W8 at h;rw[Aj9,Aj9,H8,H8]at h;obtain⟨U,J⟩:=C7a (I x (by simp)).1 y.1 (E y (by simp)).1 _ _ (.inr ⟨x.2,_,rfl,(I x (by simp)).2⟩) (.inr ⟨y.2,_,rfl,(E y (by simp)).2⟩) h;simp only[Nj,Y7,An7,Ew,T9]at J;have O:=E2u (λz L=>I z (by grind)) (λz L=>E z (by grind)) J.2;grind
def A5d(s:A4):List (Ty × UInt8):=s.A1.map (λf=>(f.bound,66))++(s.params.map (λf=>(f.type,80))++[(s.result,69)])
structure A4.Mc(s:A4):Prop where
 A1:∀f,f∈s.canon.A1->f.bound.Mg
 params:∀f,f∈s.canon.params->f.type.Mg
 result:s.canon.result.Mg
theorem D8d:∀(l:List Ak)(s:A2),(∀f,f∈l->f.bound.Mg)->G8 (Js l++s)=W8 (l.map λf=>(f.bound,66))++G8 s
 |[],s,_=>by rfl
 |f::l,s,h=>by have E:=D8d l s λg I=>h g (by grind);rw[show Js (f::l)=f.bound.mg++([95,66]++Js l) by simp[Js],H8,A4q (h f (by simp))];grind[A7z,W8]
theorem E4c:∀(l:List Param)(s:A2),(∀f,f∈l->f.type.Mg)->G8 (Jm l++s)=W8 (l.map λf=>(f.type,80))++G8 s
 |[],s,_=>by rfl
 |f::l,s,h=>by have E:=E4c l s λg I=>h g (by grind);rw[show Jm (f::l)=f.type.mg++([95,80]++Jm l) by simp[Jm],H8,A4q (h f (by simp))];grind[A7z,W8]
theorem C1m{s:A4}(h:s.Mc):G8 (Km s)=U8 s.name++(83,true)::W8 (A5d s.canon):=by
 have e:Km s=Dt s.name++(95::83::(Js s.canon.A1++(Jm s.canon.params++(s.canon.result.mg++[95,69])))):=by unfold Km;simp only[H8,Nj,Y7]
 rw[e,C5g,A7z (by decide),D8d _ _ h.A1,E4c _ _ h.params,A4q h.result];have:G8 [95,69]=[(69,true)]:=by rw[A7z (by decide)];rfl
 rw[this];simp[A5d,W8]
theorem F1i{a b:A4}(h:(A5d a).map (λz=>(z.1.er,z.2))=(A5d b).map (λz=>(z.1.er,z.2))) :a.A1.map (λf=>f.bound.er)=b.A1.map (λf=>f.bound.er)/\a.params.map (λf=>f.type.er)=b.params.map (λf=>f.type.er)/\a.result.er=b.result.er:=by
 unfold A5d at h;simp at h;have key:∀{α β:Type} {f:α->Ty} {m:UInt8} {x:List α} {y:List α} {r1 r2:List (Ty × UInt8)},(∀z∈r1.head?,z.2≠m)->(∀z∈r2.head?,z.2≠m)->x.map (λa=>(f a,m))++r1=y.map (λa=>(f a,m))++r2->x.map f=y.map f/\r1=r2:=by
  intro α β f m x
  induction x with
  |nil =>
   intro y r1 r2 I L h;cases y with
   |nil=>grind
   |cons y O =>simp_all
  |cons x xs V =>
   intro y r1 r2 I L h;cases y with
   |nil =>grind
   |cons y O =>grind
 have E:∀(s:A4),∀z∈((s.params.map λf=>(f.type.er,(80:UInt8)))++[(s.result.er,(69:UInt8))]).head?,z.2≠66:=λs z U=>by grind
 obtain⟨e1,J⟩:=key (β:=Unit) (f:=λf:Ak=>f.bound.er) (m:=66) (x:=a.A1) (y:=b.A1) (E a) (E b) h;obtain⟨Z,W⟩:=key (β:=Unit) (f:=λf:Param=>f.type.er) (m:=80) (x:=a.params) (y:=b.params) (by simp) (by simp) J;grind
theorem E6g{s t:A4}(hs:s.Mc)(ht:t.Mc)(h:Km s=Km t):s.name=t.name/\s.canon.A1.map (λf=>f.bound.er)=t.canon.A1.map (λf=>f.bound.er)/\s.canon.params.map (λf=>f.type.er)=t.canon.params.map (λf=>f.type.er)/\s.canon.result.er=t.canon.result.er:=by
 have I:=C1m hs;rw[h,C1m ht]at I;obtain⟨O,L⟩:=A6i (.inr ⟨83,_,rfl⟩) (.inr ⟨83,_,rfl⟩) I.symm;simp at L;have J:∀{s:A4},s.Mc->∀z,z∈A5d s.canon->z.1.Mg/\z.2≠76:=λ{s} hs z hz=>by unfold A5d at hz;rcases C6.1 hz with hz|hz;obtain⟨f,E,rfl⟩:=Au.1 hz;exact⟨hs.A1 f E,by simp⟩;rcases C6.1 hz with hz|hz;obtain⟨f,E,rfl⟩:=Au.1 hz;exact⟨hs.params f E,by simp⟩;rw[Qp.1 hz];exact⟨hs.result,by simp⟩
 obtain⟨k1,k2,k3⟩:=F1i (E2u (J hs) (J ht) L);grind
theorem C5f{s:A4}(hs:s.Mc){n:A2}{l:List Ty}(L:∀t,t∈l->t.Mg):Km s≠Dg n l:=λh=>by have I:=C1m hs;have E:=C0w n L [];rw[Gy,<-h,I]at E;simp only[H8,G8,Gy]at E;have J:Sep []:=.inl rfl;obtain⟨_,O⟩:=A6i (.inr ⟨83,_,rfl⟩) (by simpa using A7j (l:=l) J) E;grind[Uj]
theorem G2z{t:Ty}(ht:t.Mg):A5k≠t.mg:=λh=>by
 have E:=A4q ht [];rw[Gy,<-h]at E;have J:G8 A5k=U8 [84,111,112]++[(84,true)]:=by decide
 rw[J]at E;simp only[G8,Gy]at E;cases ht with
 |loc i p L=>rw[Ty.X1,A6 ⟨rfl,rfl⟩]at E;grind
 |Ph n a q k1 k2 k3 k4 =>rw[Ty.X1,A3 λh=>A5u k1 h.1]at E;have I:Sep []:=.inl rfl;obtain⟨_,O⟩:=A6i (.inr ⟨84,[],rfl⟩) (by have:=A7j (l:=a) I;rwa [Gy]at this) E;grind[Uj]
end Go.Abs
/- programs compared with themselves; stencil.Program and castingsref23.Program; castingslaw23.sets; the walks of StencilMatchesReference and StencilTypes -/
namespace Go.Abs
open Go Go.Proofs
structure Decl.Lm(d:Decl):Prop where
 A1:d.A1.length<=sm/\∀f,f∈d.A1->f.bound.Lm
 fields:d.fields.length<=sm/\∀f,f∈d.fields->f.type.Lm
 sigs:d.sigs.length<=3*sm/\∀s,s∈d.sigs->s.Lm
 vars:d.vars.length<=sm
 sig:d.sig.Lm
 body:d.body.Lm
theorem D7t:Jc.Lm:=⟨by simp[Jc],by simp[Jc],.mk _ _ _ (by simp) (by simp)⟩
theorem E6a:V5.Lm:=C1g.lm
theorem E1r:A6j.Lm:=.mk _ _ _ (by simp) (by simp)
theorem D3h(k:Int)(nm:A2)(fs:List Param)(ss:List A4)(E:fs.length<=sm/\∀f,f∈fs->f.type.Lm)(I:ss.length<=3*sm/\∀s,s∈ss->s.Lm):(headD k nm fs ss).Lm :=⟨⟨by simp[headD],by simp[headD]⟩,E,I,by simp[headD],D7t,E6a⟩
theorem C8z(s:A4):(Ho s).Lm:=⟨by simp[Ho],by simp[Ho],E1r⟩
theorem F1p:∀{e:Ex},e.Sm->(Bf e).Lm:=by intro e;induction e using Ex.induct with|_ e J=>?_;intro h;rw[J5];refine .mk _ _ _ _ _ _ (.mk _ _ _ (by simp) (by simp)) (by simp) (by simp) (by rw[Bc];exact h.kids.1) λx I=>?_;obtain⟨y,E,rfl⟩:=Au.1 I;exact J y E (h.kids.2 y E)
theorem G7t{p:Prog}(hp:p.count<=600)(hr:p.right=true){s:Am}(h:s.Fd){x:Ty}(hx:x∈s.types):(H9 p s.calls x).length<=3*sm/\∀d,d∈H9 p s.calls x->d.Lm:=by
 have E:=Prog.A5g p hp;have a2:=Prog.U4 p hp;have aa:=h.sm.types.2 x hx;have a7:=h.types x hx;obtain⟨ab,W⟩:=C4y (p:=p) h hx;have ac:=Y9 E.sm [] x;have V:=A6b E.sm a2 hr aa a7.args;have a9:(Bo p x).length<=sm:=A5m E.sm x;have a0:=Ai4 (Ik Bf p) (Ww p s.calls x).calls;have a8:=Ai4 (I4 p) (Ww p s.calls x).calls;unfold H9 B9g C0u B7s;generalize(Ww p s.calls x).calls=C at*;refine⟨?_,λd hd=>?_⟩
 .rw[As];have hz:(1:Nat)<=sm:=by decide
  split;rename_i a5;rw[A3 λhh=>by have:=(R3 a5).1;have:=(R3 hh).1;omega];simp only[Ar,As,Bc,Az];omega;split <;> simp <;> omega
 rcases C6.1 hd with hd|hd
 .split at hd
  .rcases B5.1 hd with rfl|hd;refine D3h _ _ _ _ ⟨by rw[Ig,Bc];exact a9,λf hf=>?_⟩ ⟨by simp,by simp⟩;obtain⟨y,_,rfl⟩:=Au.1 hf;exact C2g _;rcases C6.1 hd with hd|hd
   .obtain⟨c,hc,I⟩:=Pb.1 hd;obtain⟨O,a1⟩:=W c hc;unfold Ik at I;split at I;cases I
    .rename_i m a3;split at I;cases I
     .rename_i g hg;cases I;obtain⟨a',a6,_,_⟩:=A2c a3;obtain⟨_,a4,_⟩:=B8r hp E.sm hr a' a6 a1;have L:=E0f (l:=Cd p [] c.on) (c:=c) (λy U=>by rw[O]at U;exact(V y U).params.1) hg;refine⟨⟨by simp,by simp⟩,⟨by simp,by simp⟩,⟨by simp,by simp⟩,by simp,⟨⟨by simp,by simp⟩,⟨?_,λf hf=>?_⟩,L.result⟩,F1p a4⟩;simp only[F8,Ap3];have:=L.params.1;omega
      .obtain⟨i,J⟩:=Pu hf;simp only[F8,As7]at J;cases Z:g.params[i]? with
       |none=>rw[Z]at J;simp at J
       |some a =>
        cases hb:m.sig.params[i]? with
        |none=>rw[Z,hb]at J;simp at J
        |some b =>rw[Z,hb]at J;simp only[B0]at J;rw[<-J];exact L.params.2 a (Bm Z)
   obtain⟨s',_,rfl⟩:=Au.1 hd;exact⟨⟨by simp[Kq],by simp[Kq]⟩,⟨by simp[Kq],by simp[Kq]⟩,⟨by simp[Kq],by simp[Kq]⟩,by simp[Kq],C8z _,.mk _ _ _ _ _ _ E1r (by simp) (by simp) (by simp) (by simp)⟩
  simp at hd
 split at hd;rw[Qp.1 hd];refine D3h _ _ _ _ ⟨by simp,by simp⟩ ⟨?_,λg hg=>?_⟩;rw[As,Bc];omega;rcases C6.1 hg with hg|hg;obtain⟨c,hc,I⟩:=Pb.1 hg;obtain⟨O,_⟩:=W c hc;exact E0f (l:=Cd p [] c.on) (c:=c) (λy U=>by rw[O]at U;exact(V y U).params.1) I;obtain⟨s',_,rfl⟩:=Au.1 hg;exact C8z _;simp at hd
theorem E6p{f:Ty->List Decl}:∀l:List Ty,(∀x,x∈l->(f x).length<=3*sm)->(l.flatMap f).length<=l.length*(3*sm)
 |[],_=>by simp
 |x::l,h=>by have I:=h x (by simp);have J:=E6p l λy E=>h y (by simp[E]);rw[Aj9,As,Ar,Io];omega
def Fq(p:Prog)(s:Am):Prog:=⟨Na::s.types.flatMap (H9 p s.calls),Bf p.main⟩
theorem F4y{p:Prog}(I:p.count<=600)(hr:p.right=true){s:Am}(h:s.Fd):(Na::s.types.flatMap (H9 p s.calls)).length<=1000000000:=by
 have J:=E6p s.types λx E=>(G7t I hr h E).1;have O:s.types.length*(3*sm)<=60*(3*sm):=Iv _ (by have:=h.len;omega);rw[Ar];have L:60*(3*sm)=180000000:=by decide
 omega
theorem E0p{p:Prog}(E:p.count<=600)(hs:p.Sm)(hr:p.right=true):p.main.Nq 240000/\p.main.Rs:=by unfold Prog.right at hr;simp only[Bi]at hr;exact⟨(Ex.A9r hs.main hr.2).nq (Prog.A7s p E).2,Ex.B3o hr.2⟩
abbrev A1r:List Nat:=[0,1,2,3,4,5,6,8,17]
theorem F3e(p:Prog)(O:p.count<=600)(hr:p.right=true){s:Am}(h:s.Fd):Ab Tryz.prog 8 [Cq p,Ke s] (Cq (Fq p s)):=by
 have E:=Prog.A5g p O;obtain⟨hq,U⟩:=E0p O E.sm hr;have hX:=E0w p.main (D6o (B:=240000) (by decide) E.sm.main hq U);have Z:=F4y O hr h;have a0:=h.sm.types.1;unfold Fq;show Ab Tryz.prog 8 [Cq p,Ke s] (.agg [.d (.slice (Di (Na::s.types.flatMap (H9 p s.calls)))),.d (.int .i64 (Bf p.main).kind),.d (.str (Bf p.main).name),.d (.str (Bf p.main).type.name),.d (.slice (Ag (Bf p.main).type.args)),.d (.int .i64 (Bf p.main).type.pos),.d (.slice (Ag (Bf p.main).targs)),.d (.slice (Bj (Bf p.main).kids)),.d (.int .i64 (Bf p.main).pos)]);generalize Bf p.main=e at*;refine cB Tryz.func8 ?_;refine sR A1r ?_;refine A0.F9 A1r [8] (by decide +kernel) λK z=>?_;refine ev ?_;refine cc hX ?_;apply z;clear z K;refine kR A1r λK1 u1=>?_;refine A0.bb (A0.ii s.types (X:=Unit) (λj _=>[(2,.box 2 0),(3,.box 3 0),(4,.box 4 0),(5,.box 5 0),(6,A7 j)]) (λj _=>[(2,.cells ((Ai p).map .d)),(3,.cells (Jg s)),(4,.cells [.d .nil,.d (.int .i64 0),.d (.str []),.d (.str []),.d .nil,.d (.int .i64 0),.d .nil,.d .nil,.d (.int .i64 0)]),(5,.cells (.acc 8::mnS e)),(8,.rows 23 (Di (Na::(s.types.take j).flatMap (H9 p s.calls))))]) (λ_ _=>True) () trivial sS ⟨rfl,rfl,rfl,rfl,rfl,trivial⟩ ?_ ?_);rotate_left
 .intro j _ x L J dp tk V _;have W:=(Aw.1 L).1;have hT:=F0z p O hr h x J;have e2:Di (Na::(s.types.take (j+1)).flatMap (H9 p s.calls))=Di (Na::(s.types.take j).flatMap (H9 p s.calls))++Di (H9 p s.calls x):=by rw[La W,(Aw.1 L).2,Ap4];simp[Di]
  have e3:(Di (Na::(s.types.take j).flatMap (H9 p s.calls))).length+(Di (H9 p s.calls x)).length<=1000000000:=by
   have h1:s.types.flatMap (H9 p s.calls)=(s.types.take (j+1)).flatMap (H9 p s.calls)++(s.types.drop (j+1)).flatMap (H9 p s.calls):=by rw[<-Ap4,X5]
   have h2:(s.types.take (j+1)).flatMap (H9 p s.calls)=(s.types.take j).flatMap (H9 p s.calls)++H9 p s.calls x:=by rw[La W,(Aw.1 L).2,Ap4];simp
   rw[h1,h2]at Z;simp only[Ar,As]at Z;rw[C7z,C7z,Ar];omega
  have e4:=F2f (H9 p s.calls x);rw[e2];generalize Di (Na::(s.types.take j).flatMap (H9 p s.calls))=PR at*;generalize Di (H9 p s.calls x)=DR at*;refine Ae V A1r λI u2=>?_;refine gI u2 ?_;clear u2 I;refine sK λI u2=>A0.bb ?_;(refine lG A1r [] 10 [] λK z=>?_;refine ev ?_;refine ci (Ev L) ?_;refine cc hT ?_;refine⟨e4,by unfold lim;omega,?_⟩;(try refine ev ?_);apply z;clear z K;try simp only[A5,A9]);refine u2 _ _ ?_;clear u2 I;refine lT A1r ?_;exact⟨(),trivial,sS,by simp[ble,A8,Ai]⟩
 intro _ _;rw[Cx];refine Ae B6 A1r λI u2=>?_;refine A0.ss rfl ?_;simp only[A5,A9,Ac];refine u1 _ _ ?_;clear u2 I u1 K1;refine A0.Jh 8 rfl (wk [(4,.box 4 0),(5,.box 5 0)] [(4,.cells [.d .nil,.d (.int .i64 0),.d (.str []),.d (.str []),.d .nil,.d (.int .i64 0),.d .nil,.d .nil,.d (.int .i64 0)]),(5,.cells (.d (.slice (Di (Na::s.types.flatMap (H9 p s.calls))))::mnS e))] ?_);refine sR A1r ?_;exact aR
end Go.Abs
/- what can be looked up in the program of an instance set -/
namespace Go.Abs
open Go
structure Rf(p:Prog)(s:Am):Prop where
 Gc:Typed p
 Xv:p.count<=600
 fd:s.Fd
 Bk:Clo p s
 gd:s.Gd p
theorem Rf.of{p:Prog}(E:p.count<=600)(hr:p.right=true)(I:(A5v p true).bad=false)(h:(Kt p).2=true):Rf p (Kt p).1 :=⟨.of hr I,E,F7d (Prog.A5g p E) (Prog.U4 p E) hr h,G7i h,F1c (.of hr I)⟩
theorem C5x{f:Ty->List Decl}{P:Decl->Bool}:∀(I:List Ty) {x:Ty} {E:List Ty},(∀y,y∈I->∀d,d∈f y->P d=false)->((I++x::E).flatMap f).find? P=((f x).find? P).or ((E.flatMap f).find? P)
 |[],x,E,_=>by rw[Y7,Aj9,List.find?_append]
 |y::I,x,E,h=>by
  rw[Nj,Aj9,List.find?_append,C5x I λz J=>h z (by simp[J])];have:(f y).find? P=none:=List.find?_eq_none.2 λd hd=>by rw[h y (by simp) d hd];simp
  rw[this];rfl
theorem H1c{f:Ty->List Decl}{P:Decl->Bool}(l:List Ty)(h:∀y,y∈l->∀d,d∈f y->P d=false):(l.flatMap f).find? P=none :=List.find?_eq_none.2 λd hd=>by obtain⟨y,E,hd⟩:=Ap6.1 hd;rw[h y E d hd];simp
abbrev Mf(p:Prog)(s:Am)(x:Ty):List B8:=(Ww p s.calls x).calls
def Wn(p:Prog)(s:Am)(x:Ty):List A4:=(Mf p s x).filterMap (I4 p)++(Cd p [] x).map Ho
def Jv(p:Prog)(s:Am)(x:Ty):Decl:=if Bb p x 1=true then headD 1 x.mg (Ig (Bo p x)) []else headD 2 x.mg [] (Wn p s x)
def N6(p:Prog)(s:Am)(x:Ty):List Decl:=if Bb p x 1=true then(Mf p s x).filterMap (Ik Bf p)++(Cd p [] x).map (Kq x.mg)else[]
theorem B6t{p:Prog}{x:Ty}(h:Bb p x 1=true):¬Bb p x 2=true:=λE=>by have:=(R3 h).1;have:=(R3 E).1;omega
theorem A5q{p:Prog}{s:Am}{x:Ty}(h:Bx p [] x=none):H9 p s.calls x=Jv p s x::N6 p s x:=by unfold H9 B9g C0u B7s Jv N6 Wn;rcases B6c h with E|h2;rw[A6 E,A6 E,A6 E,A3 (B6t E),Gy];have E:¬Bb p x 1=true:=λI=>B6t I h2;rw[A3 E,A3 E,A3 E,A6 h2];rfl
section
variable {p:Prog} {s:Am} (h:Rf p s)
include h
theorem Rf.sm:p.Sm:=(Prog.A5g p h.Xv).sm
theorem Rf.tl:∀d,d∈p.decls->d.Tl:=Prog.U4 p h.Xv
theorem Rf.mg{t:Ty}(ht:t∈s.types):t.Mg:=(h.fd.types t ht).mg
theorem Rf.wf{t:Ty}(ht:t∈s.types):Bx p [] t=none:=h.gd.types t ht
theorem E0o{x y:Ty}(O:x∈s.types)(U:y∈s.types)(L:x.er=y.er):x=y:=by obtain⟨i,J,rfl⟩:=List.getElem_of_mem O;obtain⟨j,I,rfl⟩:=List.getElem_of_mem U;have E:=Ar0.1 h.Bk.types;rcases As2 i j with hlt|rfl|hlt;have:=E i j J I hlt;have:=(Ud _ _).2 L;omega;rfl;have:=E j i I J hlt;have:=(Ud _ _).2 L.symm;omega
theorem D0b{x y:Ty}(E:x∈s.types)(I:y∈s.types)(J:x.mg=y.mg):x=y:=E0o h E I (D2u (h.mg E) (h.mg I) J)
theorem E2f{x:Ty}(L:x∈s.types):∃I J,s.types=I++x::J/\(∀y,y∈I->y.mg≠x.mg)/\∀y,y∈J->y.mg≠x.mg:=by obtain⟨I,J,e⟩:=List.append_of_mem L;have U:=h.Bk.types;rw[e]at U;obtain⟨p1,Z,W⟩:=Ao5.1 U;refine⟨I,J,e,λy E O=>?_,λy E O=>?_⟩;have V:=W y E x (by simp);have:=D0b h (by rw[e];simp[E]) L O;subst this;have:=(Ud y y).2 rfl;omega;have V:=(Aj7.1 Z).1 y E;have:=D0b h (by rw[e];simp[E]) L O;subst this;have:=(Ud y y).2 rfl;omega
theorem Th{x:Ty}(E:x∈s.types):∀c,c∈Mf p s x->c.on=x/\c.Ni:=(C4y (p:=p) h.fd E).2
theorem Xr{x:Ty}(I:x∈s.types){d:Decl}(hd:d∈N6 p s x):d.name=x.mg/\d.kind=3/\d.vars=[]/\d.A1=[]/\d.sig.A1=[]:=by unfold N6 at hd;split at hd;rcases C6.1 hd with hd|hd;obtain⟨c,J,E⟩:=Pb.1 hd;unfold Ik at E;split at E;cases E;split at E;cases E;cases E;exact⟨by simp only;rw[(Th h I c J).1],rfl,rfl,rfl,rfl⟩;obtain⟨g,_,rfl⟩:=Au.1 hd;exact⟨rfl,rfl,rfl,rfl,rfl⟩;simp at hd
omit h in
theorem C7p(x:Ty):(Jv p s x).name=x.mg/\((Jv p s x).kind=1\/(Jv p s x).kind=2):=by unfold Jv;split;exact⟨rfl,.inl rfl⟩;exact⟨rfl,.inr rfl⟩
theorem D6d{x:Ty}(E:x∈s.types){d:Decl}(hd:d∈H9 p s.calls x):d.name=x.mg:=by rw[A5q (h.wf E)]at hd;rcases B5.1 hd with rfl|hd;exact(C7p (p:=p) (s:=s) x).1;exact(Xr h E hd).1
theorem B7p{x:Ty}(E:x∈s.types):Fk (Fq p s) x.mg=some (Jv p s x):=by
 obtain⟨L,O,e,J,_⟩:=E2f h E;unfold Fk Fq;simp only;have ht:Na.J3 x.mg=false:=by have:A5k≠x.mg:=G2z (h.mg E);unfold Decl.J3;show(_ && decide (A5k=x.mg))=false;rw[Cu this,Sf]
 rw[Xc,ht,e,C5x L λy I d hd=>?_,A5q (h.wf E),Xc]
 .have:(Jv p s x).J3 x.mg=true:=by unfold Decl.J3;obtain⟨k1,k2⟩:=C7p (p:=p) (s:=s) x;simp only[k1,Ra,Ar5,Xu,E4];exact k2
  rw[this];rfl
 unfold Decl.J3;rw[D6d h (by rw[e];simp[I]) hd,Cu (J y I),Sf]
theorem G1b{x:Ty}(E:x∈s.types):kindOf (Fq p s) x.mg=if Bb p x 1=true then 1 else 2:=by have:=B7p h E;unfold Fk at this;unfold kindOf;rw[this];show(Jv p s x).kind=_;unfold Jv;split <;> rfl
theorem F5o{x:Ty}(E:x∈s.types):Ey (Fq p s) x.mg=[]:=by unfold Ey;rw[B7p h E];show(Jv p s x).A1=[];unfold Jv;split <;> rfl
theorem A2o{x:Ty}(I:x∈s.types)(a:Int){k:Int}(J:k=1\/k=2):Bb (Fq p s) (.mk x.mg [] a) k=Bb p x k:=by
 have L:Bb (Fq p s) (.mk x.mg [] a) k=decide ((if Bb p x 1=true then(1:Int)else 2)=k):=by unfold Bb;show(decide (kindOf (Fq p s) x.mg=k) && decide ((Ey (Fq p s) x.mg).length=([]:List Ty).length))=_;rw[G1b h I,F5o h I];simp[Bb]
 rw[L];by_cases E:Bb p x 1=true;rw[A6 E];rcases J with rfl|rfl;rw[E];rfl;have:=B6t E;simp only[At0]at this;rw[this];rfl;rw[A3 E];have O:=(B6c (h.wf I)).resolve_left E;rcases J with rfl|rfl;simp only[At0]at E;rw[E];rfl;rw[O];rfl
theorem G3t(f:Param):Param.subst [] [] f=f:=by cases f;simp[Param.subst,Q7]
theorem F6v{x:Ty}(I:x∈s.types)(E:Bb p x 1=true)(a:Int):Bo (Fq p s) (.mk x.mg [] a)=Ig (Bo p x):=by unfold Bo;rw[A6 (by rw[A2o h I a (.inl rfl)];exact E)];show fieldsD ((Fk (Fq p s) x.mg).getD default) (.mk x.mg [] a)=_;rw[B7p h I,Dh];unfold fieldsD Jv;rw[A6 E];show(Ig (Bo p x)).map (Param.subst [] [])=Ig (if Bb p x 1=true then _ else[]);rw[A6 E,Hb (g:=id) λf _=>G3t h f,List.map_id];unfold Bo;rw[A6 E];rfl
theorem G6w{x:Ty}(J:x∈s.types)(m:A2):(Fq p s).decls.find? (Ez x.mg m)=(N6 p s x).find? (Ez x.mg m):=by
 obtain⟨O,V,e,L,Z⟩:=E2f h J;have I:∀y,y∈s.types->y.mg≠x.mg->∀d,d∈H9 p s.calls y->Ez x.mg m d=false:=λy E W d hd=>by unfold Ez;rw[D6d h E hd,Cu W];simp
 unfold Fq;simp only;have ht:Ez x.mg m Na=false:=by unfold Ez;rw[show Na.kind=1 from rfl];simp
 rw[Xc,ht,e,C5x O λy E d hd=>I y (by rw[e];simp[E]) (L y E) d hd,A5q (h.wf J),Xc];have U:Ez x.mg m (Jv p s x)=false:=by unfold Ez;have:=(C7p (p:=p) (s:=s) x).2;rw[Cu (by omega)];simp
 rw[U,H1c V λy E d hd=>I y (by rw[e];simp[E]) (Z y E) d hd];simp
theorem C8k{x:Ty}(E:x∈s.types)(J:Bb p x 1=true)(a:Int)(m:A2):Ga (Fq p s) (.mk x.mg [] a) m=(N6 p s x).find? (Ez x.mg m):=by
 unfold Ga;rw[A6 (by rw[A2o h E a (.inl rfl)];exact J)];show(match(Fq p s).decls.find? (Ez x.mg m)with
  |some d=>if d.vars.length=([]:List Ty).length then some d else none
  |none=>none)=_
 rw[G6w h E];cases I:(N6 p s x).find? (Ez x.mg m)with
 |none=>rfl
 |some d =>have:=Xr h E (Aj0 I);simp[this.2.2.1]
theorem Yb{x:Ty}(hx:x∈s.types){c:B8}(hc:c∈Mf p s x):∃g,g∈Cv p [] x/\g.name=c.name/\g.A1.length=c.targs.length/\Hi p [] g.A1 c.targs<0/\(∀t,t∈c.targs->Bx p [] t=none)/\I4 p c=some (Dy c g)/\∃E,E∈s.calls/\Cg p [] x E.on=true/\c=⟨x,E.name,E.targs⟩/\Mo p x E=some g:=by
 have hl:=h.fd.len;have hm:c∈L7 p s.calls x:=by obtain⟨_,b2,_⟩:=B4x (L7 p s.calls x) ⟨[],[],false⟩ (by simp[Td]) (by have:=B7z p s.calls x;simp only[Az];omega);exact(b2 c hc).elim id λh=>by simp at h
 obtain⟨E,W,rfl⟩:=Au.1 hm;obtain⟨W,hi⟩:=Kr.1 W;have V:=h.gd.calls E W;obtain⟨g0,m0,n0,l0,b0⟩:=V.sig;obtain⟨g,mg,eg⟩:=A9h hi g0 m0;obtain⟨e1,e2,_⟩:=A2f eg;have hn:g.name=E.name:=e1.trans n0;have I:g.A1.length=E.targs.length:=by rw[<-l0];have:=Gf List.length e2;simpa using this
 have L:∃k,F5 (Cd p [] x) E.name=(k:Nat)/\(Cd p [] x)[k]?=some g:=by have J:=Pd.2 mg;obtain⟨k,hk⟩:=Pu J;unfold F5;rcases Lo (λs:A4=>decide (s.name=E.name)) (Cd p [] x)with⟨_,Z⟩|⟨j,y,h1,Z,h3⟩;have:=Z g J;simp[hn]at this;refine⟨j,h1,?_⟩;have:y=g:=A3e (C0m p [] x) (Bm Z) J (by simp at h3;rw[h3,hn]);rw[<-this];exact Z
 obtain⟨k,U,O⟩:=L;have a0:Mo p x E=some g:=by unfold Mo;rw[U,A3 (by omega),Hx,O];simp only;rw[A6 ⟨I,hi⟩]
 refine⟨g,mg,hn,I,E2v eg b0,V.targs,?_,E,W,hi,rfl,a0⟩;unfold I4 A7o;simp only;rw[U,A3 (by omega),Hx,O,Dh,A6 I]
theorem D0h{x:Ty}{E:B8}(L:E∈s.calls)(U:Cg p [] x E.on=true):∃c,c∈Mf p s x/\c.on=x/\c.name=E.name/\c.targs.map Ty.er=E.targs.map Ty.er:=by
 have hl:=h.fd.len;have J:(⟨x,E.name,E.targs⟩:B8)∈L7 p s.calls x:=Au.2 ⟨E,Kr.2 ⟨L,U⟩,rfl⟩;obtain⟨_,Z,_,b4⟩:=B4x (L7 p s.calls x) ⟨[],[],false⟩ (by simp[Td]) (by have:=B7z p s.calls x;simp only[Az];omega);obtain⟨c,I,O⟩:=b4 _ J;obtain⟨_,V,W⟩:=C2e O;refine⟨c,I,?_,V.symm,W.symm⟩;have:c∈L7 p s.calls x:=(Z c I).elim id λh=>by simp at h
 exact D5m c this
theorem E9f(x:Ty):Td (Mf p s x):=by have E:=h.fd.len;exact(B4x (L7 p s.calls x) ⟨[],[],false⟩ (by simp[Td]) (by have:=B7z p s.calls x;simp only[Az];omega)).1
theorem A3p{x:Ty}(J:x∈s.types){g:A4}(L:g∈Cd p [] x):g.Mc:=by have I:=(A6b h.sm h.tl h.Gc.right (h.fd.sm.types.2 x J) (h.fd.types x J).args g L).canon;exact⟨λf E=>(I.A1.2 f E).mg,λf E=>(I.params.2 f E).mg,I.result.mg⟩
theorem Xp{x:Ty}(I:x∈s.types)(W:Bb p x 1=true){c:B8}(J:c∈Mf p s x):∃d g,Ga p x c.name=some d/\g=d.sig.canon.subst d.vars x.args/\I4 p c=some (Dy c g)/\g.A1.length=c.targs.length /\Ik Bf p c=some ⟨3,x.mg,[],[],[],d.recv,[],⟨(Dy c g).name,[],F8 (Dy c g).params d.sig.params,(Dy c g).result,0⟩,Bf (Jd d x c),0⟩:=by obtain⟨g,O,U,V,_,_,L,_⟩:=Yb h I J;obtain⟨E,_⟩:=Th h I c J;obtain⟨d,_,_,_,_,Z,hd⟩:=Ze W O;rw[U]at hd;refine⟨d,g,hd,Z,L,V,?_⟩;unfold Ik;rw[E,hd,L]
def Nc(p:Prog)(s:Am)(x:Ty):List A4:=if Bb p x 1=true then(N6 p s x).map (·.sig)else Wn p s x
omit h in
theorem H0p(ps E:List Param)(J:ps.length<=E.length):(F8 ps E).map (·.type)=ps.map (·.type):=by
 apply Mm;intro i;simp only[F8,Db,As7];cases I:ps[i]? with
 |none=>rfl
 |some a =>
  have:i<E.length:=by have:=(Aw.1 I).1;omega
  rw[Br this];rfl
theorem A5s{x:Ty}(U:x∈s.types){w:A4}:w∈Nc p s x↔(∃c g,c∈Mf p s x/\I4 p c=some (Dy c g)/\g∈Cv p [] x/\g.name=c.name/\(if Bb p x 1=true then ∃d,Ga p x c.name=some d/\w=⟨(Dy c g).name,[],F8 (Dy c g).params d.sig.params,(Dy c g).result,0⟩else w=Dy c g))\/∃g,g∈Cd p [] x/\w=Ho g:=by unfold Nc;by_cases J:Bb p x 1=true;rw[A6 J];simp only[A6 J];unfold N6;rw[A6 J,Hc,C6];constructor;rintro(hw|hw);obtain⟨d,hd,rfl⟩:=Au.1 hw;obtain⟨c,E,hm⟩:=Pb.1 hd;obtain⟨d',g,e1,e2,e3,e4,V⟩:=Xp h U J E;rw[hm]at V;cases V;obtain⟨g',Z,W,_,_,_,L,_⟩:=Yb h U E;refine .inl ⟨c,g',E,L,Z,W,d',e1,?_⟩;rw[e3]at L;rw[An6 L];obtain⟨d,hd,rfl⟩:=Au.1 hw;obtain⟨g,I,rfl⟩:=Au.1 hd;exact .inr ⟨g,I,rfl⟩;rintro(⟨c,g,E,O,_,_,d,hd,rfl⟩|⟨g,I,rfl⟩);obtain⟨d',g',e1,_,e3,_,V⟩:=Xp h U J E;rw[e1]at hd;cases hd;rw[e3]at O;refine .inl (Au.2 ⟨_,Pb.2 ⟨c,E,V⟩,?_⟩);simp only;rw[An6 O];exact .inr (Au.2 ⟨Kq x.mg g,Au.2 ⟨g,I,rfl⟩,rfl⟩);rw[A3 J];simp only[A3 J];unfold Wn;rw[C6];constructor;rintro(hw|hw);obtain⟨c,E,O⟩:=Pb.1 hw;obtain⟨g,Z,W,_,_,_,L,_⟩:=Yb h U E;refine .inl ⟨c,g,E,L,Z,W,?_⟩;rw[O]at L;exact An6 L;obtain⟨g,I,rfl⟩:=Au.1 hw;exact .inr ⟨g,I,rfl⟩;rintro(⟨c,g,E,O,_,_,rfl⟩|⟨g,I,rfl⟩);exact .inl (Pb.2 ⟨c,E,O⟩);exact .inr (Au.2 ⟨g,I,rfl⟩)
theorem C7o{x:Ty}(I:x∈s.types){w:A4}(J:w∈Nc p s x):w.A1=[]:=by rcases(A5s h I).1 J with⟨c,g,_,_,_,_,E⟩|⟨g,_,rfl⟩;split at E;obtain⟨d,_,rfl⟩:=E;rfl;rw[E];rfl;rfl
end
theorem C2w{α β:Type}{f:α->Option β}{R:α->α->Prop}{S:β->β->Prop}(E:∀a b x y,R a b->f a=some x->f b=some y->S x y):∀{l:List α},l.Pairwise R->(l.filterMap f).Pairwise S
 |[],_=>by simp
 |a::l,W=>by
  obtain⟨L,Z⟩:=Aj7.1 W;have J:=C2w E Z;cases I:f a with
  |none=>rw[List.filterMap_cons_none I];exact J
  |some x =>rw[List.filterMap_cons_some I];refine Aj7.2 ⟨λy V=>?_,J⟩;obtain⟨b,O,U⟩:=Pb.1 V;exact E a b x y (L b O) I U
section
variable {p:Prog} {s:Am} (h:Rf p s)
include h
theorem D3d{x:Ty}(I:x∈s.types):(Mf p s x).Pairwise λa b=>Dg a.name a.targs≠Dg b.name b.targs:=by
 have E:=E9f h x;unfold Td at E;refine List.Pairwise.imp_of_mem ?_ E;intro a b W J V he;obtain⟨a1,L⟩:=Th h I a W;obtain⟨O,b2⟩:=Th h I b J;obtain⟨e1,e2⟩:=E3f (λt ht=>(L.targs t ht).mg) (λt ht=>(b2.targs t ht).mg) he;have:Dk a b=0:=by
  have U:E6 a.on b.on=0:=by rw[a1,O];exact(Ud x x).2 rfl
  have Z:Bw a.name b.name=0:=Tx.2 e1;have e5:E6 (.mk [] a.targs 0) (.mk [] b.targs 0)=0:=(Ud _ _).2 (by rw[Ia,Ia];simp only[Ty.name,Ty.args];rw[e2]);unfold Dk;rw[A6 U,A6 Z,e5]
 omega
theorem F7b{x:Ty}(J:x∈s.types):(Cd p [] x).Pairwise λa b=>Km a≠Km b:=by have E:=C0m p [] x;unfold List.Nodup at E;rw[List.pairwise_map]at E;refine List.Pairwise.imp_of_mem ?_ E;intro a b O L I U;exact I (E6g (A3p h J O) (A3p h J L) U).1
theorem E5i{x:Ty}(I:x∈s.types):((Nc p s x).map (·.name)).Nodup:=by
 have key:∀l:List A4,(l.Pairwise λa b=>a.name≠b.name)->(∀w,w∈l->∃c,c∈Mf p s x/\w.name=Dg c.name c.targs)->((l++(Cd p [] x).map Ho).map (·.name)).Nodup:=by intro l hl U;unfold List.Nodup;rw[List.pairwise_map,Ao5];refine⟨hl,?_,λa L b J he=>?_⟩;rw[List.pairwise_map];exact F7b h I;obtain⟨c,W,hn⟩:=U a L;obtain⟨g,hg,rfl⟩:=Au.1 J;refine C5f (A3p h I hg) (n:=c.name) (l:=c.targs) (λt ht=>((Th h I c W).2.targs t ht).mg) ?_;rw[<-hn];exact he.symm
 unfold Nc;by_cases V:Bb p x 1=true;rw[A6 V];unfold N6;rw[A6 V,Hc,Dw];have e:((λd:Decl=>d.sig) ∘ Kq x.mg)=Ho:=rfl;rw[e];refine key _ ?_ λw hw=>?_;rw[List.pairwise_map];refine C2w (R:=λa b=>(a∈Mf p s x/\b∈Mf p s x)/\Dg a.name a.targs≠Dg b.name b.targs) (λa b x' y' E L J=>?_) (List.Pairwise.imp_of_mem (λL J hh=>⟨⟨L,J⟩,hh⟩) (D3d h I));obtain⟨_,_,_,_,_,_,O⟩:=Xp h I V E.1.1;obtain⟨_,_,_,_,_,_,f5⟩:=Xp h I V E.1.2;rw[O]at L;rw[f5]at J;cases L;cases J;exact E.2;obtain⟨d,hd,rfl⟩:=Au.1 hw;obtain⟨c,U,Z⟩:=Pb.1 hd;obtain⟨_,_,_,_,_,_,O⟩:=Xp h I V U;rw[Z]at O;cases O;exact⟨c,U,rfl⟩;rw[A3 V];unfold Wn;refine key _ ?_ λw hw=>?_;refine C2w (R:=λa b=>(a∈Mf p s x/\b∈Mf p s x)/\Dg a.name a.targs≠Dg b.name b.targs) (λa b x' y' E L J=>?_) (List.Pairwise.imp_of_mem (λL J hh=>⟨⟨L,J⟩,hh⟩) (D3d h I));obtain⟨_,_,_,_,_,_,O,_⟩:=Yb h I E.1.1;obtain⟨_,_,_,_,_,_,f5,_⟩:=Yb h I E.1.2;rw[O]at L;rw[f5]at J;cases L;cases J;exact E.2;obtain⟨c,U,Z⟩:=Pb.1 hw;obtain⟨_,_,_,_,_,_,O,_⟩:=Yb h I U;rw[Z]at O;cases O;exact⟨c,U,rfl⟩
end
end Go.Abs
/- types implement each other in the program of an instance set exactly if they do in the program -/
namespace Go.Abs
open Go
def pE(g:A4):A4:=⟨g.name,[],g.params.map (λf=>⟨[],f.type.er,0⟩),g.result.er,0⟩
abbrev Zz(g:A4):A4:=g.canon.subst [] []
theorem E0x{g:A4}(h:g.A1=[]):g.canon=⟨g.name,[],g.params.map (λf=>⟨[],f.type,f.pos⟩),g.result,g.pos⟩:=by
 unfold A4.canon H4 Hr;rw[h];have e:D7 ([]:List Ak).length=[]:=rfl;have I:Ad ([]:List Ak)=[]:=rfl;rw[e,I];simp only[Q7,List.mapIdx_nil]
 congr 1
 apply Mm;intro i;rw[S5,Db];cases E:g.params[i]? with
 |none=>rfl
 |some f =>have:=(Aw.1 E).1;simp only[Ef,A6 this]
theorem G5e{g:A4}(h:g.A1=[]):Zz g=⟨g.name,[],g.params.map (λf=>⟨[],f.type,f.pos⟩),g.result,g.pos⟩:=by
 unfold Zz;rw[E0x h];simp only[A4.subst,It,Dw,Q7]
 congr 1
 exact Hb λf _=>by simp[Param.subst,Q7]
theorem E5o{g:A4}(h:g.A1=[]):(Zz g).canon.er=pE g/\(Zz g).er=pE g:=by have e:=G5e h;rw[E0x (g:=Zz g) (by rw[e]),e];simp only[A4.er,pE,Dw,It];exact⟨rfl,rfl⟩
theorem G3x{P:Prog}{x:Ty}(J:Bb P x 1=true){w:A4}:w∈Cv P [] x↔∃d,Ga P x d.sig.name=some d/\w=d.sig.canon.subst d.vars x.args:=by
 constructor;intro hw;obtain⟨d,_,_,_,_,O,hd⟩:=Ze J hw;refine⟨d,?_,O⟩;rw[O]at hd;exact hd
 .rintro⟨d,hd,rfl⟩;have h2:¬Bb P x 2=true:=B6t J;unfold Cv;rw[A7d];simp only[Rv,Nb,I5,Fm];rw[A3 h2];obtain⟨_,Z,_,W⟩:=A2c hd;rcases B5v P x d.sig.name with⟨_,I⟩|⟨j,V,hj,L,I⟩;rw[I]at hd;cases hd;rw[hd]at I;cases I;have E:d.name=x.name:=by unfold Ga at hd;rw[A6 J]at hd;split at hd;rename_i V U;split at hd;cases hd;have:=Ar6 U;unfold Ez at this;simp only[Bi,E4]at this;exact this.1.2;cases hd;cases hd
  unfold Gw;refine Au.2 ⟨(d,j),Kr.2 ⟨?_,?_⟩,rfl⟩;rw[Cx];exact List.mem_zipIdx_iff_getElem?.2 L;unfold J6;simp only[Z,E,hj,Ra,Ar5]
theorem G8z{v:List A2}{a:List Ty}{l:List A4}(O:(l.map (·.name)).Nodup){w:A4}:w∈Ic v a l l.length↔∃y,y∈l/\w=y.canon.subst v a:=by
 unfold Ic;rw[Cx];constructor;intro W;obtain⟨⟨y,i⟩,J,rfl⟩:=Au.1 W;exact⟨y,Vt (Kr.1 J).1,rfl⟩
 .rintro⟨y,J,rfl⟩;obtain⟨i,L⟩:=Pu J;refine Au.2 ⟨(y,i),Kr.2 ⟨List.mem_zipIdx_iff_getElem?.2 L,?_⟩,rfl⟩;unfold Q8;rw[E4];intro z U Z;obtain⟨j,E⟩:=Pu U;rw[Ak4]at E;split at E
  .rename_i V;have I:(l.map (·.name))[j]?=some z.name:=by rw[Db,E];rfl
   have h2:(l.map (·.name))[i]?=some y.name:=by rw[Db,L];rfl
   rw[Z]at I;have:=(List.getElem?_inj (i:=j) (j:=i) (by have:=(Aw.1 I).1;exact this) O).1 (I.trans h2.symm);omega
  cases E
theorem C7b{nm:A2}:∀{l:List Decl},(∀d,d∈l->d.kind=3/\d.name=nm)->(l.map (λd=>d.sig.name)).Nodup->∀{d:Decl},d∈l->l.find? (Ez nm d.sig.name)=some d
 |[],_,_,d,hd=>by simp at hd
 |e::l,J,E,d,hd=>by
  rw[Cp,Ao7]at E;rw[Xc];rcases B5.1 hd with rfl|hd
  .have:Ez nm d.sig.name d=true:=by unfold Ez;obtain⟨L,U⟩:=J d (by simp);simp[L,U]
   rw[this]
  .have I:e.sig.name≠d.sig.name:=λO=>E.1 (by rw[O];exact Au.2 ⟨d,hd,rfl⟩);have:Ez nm d.sig.name e=false:=by unfold Ez;rw[Cu I,Sf]
   rw[this];exact C7b (λd hd=>J d (by simp[hd])) E.2 hd
theorem F3y{l m:List Ak}(O:Ad l=Ad m)(U:l.map (λf=>f.bound.er)=m.map (λf=>f.bound.er)):l.map Ak.er=m.map Ak.er:=by
 apply Mm;intro i;have E:(Ad l)[i]?=(Ad m)[i]?:=by rw[O]
 have I:(l.map (λf=>f.bound.er))[i]?=(m.map (λf=>f.bound.er))[i]?:=by rw[U]
 simp only[Ad,Db]at E I |-;cases L:l[i]? with
 |none =>
  rw[L]at E;cases J:m[i]? with
  |none=>rfl
  |some b=>rw[J]at E;simp at E
 |some a =>
  rw[L]at E I;cases J:m[i]? with
  |none=>rw[J]at E;simp at E
  |some b =>rw[J]at E I;simp only[Ef,B0]at E I |-;unfold Ak.er;rw[E,I]
theorem E8e{l m:List Param}(J:∀f,f∈l->f.name=[])(E:∀f,f∈m->f.name=[])(O:l.map (λf=>f.type.er)=m.map (λf=>f.type.er)):l.map Param.er=m.map Param.er:=by
 have key:∀k:List Param,(∀f,f∈k->f.name=[])->k.map Param.er=(k.map (λf=>f.type.er)).map λt=>(⟨[],t,0⟩:Param):=λk L=>by rw[Dw];exact Hb λf I=>by unfold Param.er;rw[L f I];rfl
 rw[key l J,key m E,O]
theorem E0s{s:A4}:∀f,f∈s.canon.params->f.name=[]:=λf E=>by unfold A4.canon Hr at E;obtain⟨i,y,I,_,rfl⟩:=mem_mapIdx E;have:=(Aw.1 I).1;simp only[A6 this]
theorem G9e{v w:A4}(J:v.name=w.name)(E:v.canon.A1.map (λf=>f.bound.er)=w.canon.A1.map (λf=>f.bound.er))(U:v.canon.params.map (λf=>f.type.er)=w.canon.params.map (λf=>f.type.er))(I:v.canon.result.er=w.canon.result.er):v.canon.er=w.canon.er:=by
 have L:v.canon.A1.length=w.canon.A1.length:=by have:=Gf List.length E;simpa using this
 have O:Ad v.canon.A1=Ad w.canon.A1:=by rw[(A7m v).fs,(A7m w).fs,L]
 unfold A4.er;rw[F3y O E,E8e E0s E0s U,I];have:v.canon.name=w.canon.name:=J;rw[this]
theorem G5z{v w:A4}(O:v.name=w.name)(h:v.canon.er=w.canon.er):Km v=Km w:=by
 obtain⟨_,J,U,L⟩:=A2f h;have f1:v.canon.A1.map (λf=>f.bound.mg)=w.canon.A1.map (λf=>f.bound.mg):=by
  have:∀k:List Ak,k.map (λf=>f.bound.mg)=(k.map Ak.er).map λf=>f.bound.mg:=λk=>by rw[Dw];exact Hb λf _=>(C0e f.bound).symm
  rw[this v.canon.A1,this w.canon.A1,J]
 have f2:v.canon.params.map (λf=>f.type.mg)=w.canon.params.map (λf=>f.type.mg):=by
  have:∀k:List Param,k.map (λf=>f.type.mg)=(k.map Param.er).map λf=>f.type.mg:=λk=>by rw[Dw];exact Hb λf _=>(C0e f.type).symm
  rw[this v.canon.params,this w.canon.params,U]
 have I:∀k:List Ak,Js k=(k.map (λf=>f.bound.mg)).flatMap λz=>z++[95,66]:=λk=>by simp[Js,List.flatMap_map]
 have E:∀k:List Param,Jm k=(k.map (λf=>f.type.mg)).flatMap λz=>z++[95,80]:=λk=>by simp[Jm,List.flatMap_map]
 unfold Km;rw[O,I,I,E,E,f1,f2,A7t L]
theorem E3r{c d:B8}{g k:A4}(h:g.er=k.er)(O:c.name=d.name)(J:c.targs.map Ty.er=d.targs.map Ty.er):Dy c g=Dy d k:=by
 obtain⟨_,e1,Z,U⟩:=A2f h;have L:Ad g.A1=Ad k.A1:=by rw[<-Yk g.A1,e1,Yk]
 have W:Dg c.name c.targs=Dg d.name d.targs:=by rw[O,Dg,Dg,B6q J]
 have hr:Pm (g.result.subst (Ad g.A1) c.targs)=Pm (k.result.subst (Ad k.A1) d.targs):=D0f (by rw[Hq,Hq,L,J,U]);have V:Hf (g.params.map (Param.subst (Ad g.A1) c.targs))=Hf (k.params.map (Param.subst (Ad k.A1) d.targs)):=by
  unfold Hf;refine Mm λi=>?_;have:=Gf (λl=>l[i]?) Z;simp only[Db]at this;simp only[S5,Db,Option.map_map];cases I:g.params[i]? with
  |none =>
   cases E:k.params[i]? with
   |none=>rfl
   |some b=>rw[I,E]at this;simp at this
  |some a =>
   cases E:k.params[i]? with
   |none=>rw[I,E]at this;simp at this
   |some b =>
    rw[I,E]at this;simp only[Ef,B0]at this;have ht:a.type.er=b.type.er:=by have:=Gf Param.type this;simpa [Param.er]using this
    simp only[Ef,Function.comp,Param.subst]
    congr 2
    exact D0f (by rw[Hq,Hq,L,J,ht])
 unfold Dy;rw[W,hr,V]
section
variable {p:Prog} {s:Am} (h:Rf p s)
include h
theorem B4a{x:Ty}(I:x∈s.types)(a:Int){w:A4}:w∈Cv (Fq p s) [] (.mk x.mg [] a)↔∃g,g∈Nc p s x/\w=Zz g:=by
 have E:=E5i h I;by_cases J:Bb p x 1=true
 .rw[G3x (by rw[A2o h I a (.inl rfl)];exact J)];unfold Nc at E |-;rw[A6 J]at E |-;rw[Dw]at E;constructor
  rintro⟨d,hd,rfl⟩;rw[C8k h I J]at hd;have L:=Aj0 hd;refine⟨d.sig,Au.2 ⟨d,L,rfl⟩,?_⟩;rw[(Xr h I L).2.2.1];rfl;rintro⟨g,V,rfl⟩;obtain⟨d,hd,rfl⟩:=Au.1 V;refine⟨d,?_,?_⟩;rw[C8k h I J];exact C7b (λd hd=>⟨(Xr h I hd).2.1,(Xr h I hd).1⟩) E hd;rw[(Xr h I hd).2.2.1];rfl
 .have U:=(B6c (h.wf I)).resolve_left J;have O:isIface (Fq p s) [] (.mk x.mg [] a)=true:=by unfold isIface;rw[A2o h I a (.inr rfl),U,A7d];rfl
  rw[B1x O];unfold H2;rw[A6 (by rw[A2o h I a (.inr rfl)];exact U)];show w∈Wm ((Fk (Fq p s) x.mg).getD default) (.mk x.mg [] a)↔_;rw[B7p h I,Dh];unfold Jv Wm Nc;rw[A3 J,A3 J];unfold Nc at E;rw[A3 J]at E;exact G8z E
theorem C8c{x:Ty}(L:x∈s.types){w:A4}(V:w∈Nc p s x):(∃c g,c∈Mf p s x/\I4 p c=some (Dy c g)/\g∈Cv p [] x/\g.name=c.name/\w.name=(Dy c g).name/\pE w=pE (Dy c g))\/∃g,g∈Cd p [] x/\w=Ho g:=by
 rcases(A5s h L).1 V with⟨c,g,O,h2,I,J,hh⟩|hh
 .refine .inl ⟨c,g,O,h2,I,J,?_⟩;split at hh
  .rename_i Z;obtain⟨d,hd,rfl⟩:=hh;refine⟨rfl,?_⟩;obtain⟨d',_,_,_,_,U,E⟩:=Ze Z I;rw[J,hd]at E;cases E;have W:(Dy c g).params.length<=d.sig.params.length:=by show(Hf _).length<=_;rw[A4j,Bc,U];simp only[A4.subst,Bc,A4.canon,Vv];exact Bq _
   have:=H0p (Dy c g).params d.sig.params W;unfold pE;simp only
   congr 1
   have e:∀k:List Param,k.map (λf=>(⟨[],f.type.er,0⟩:Param))=(k.map (·.type)).map λt=>⟨[],t.er,0⟩:=λk=>by rw[Dw];rfl
   rw[e,e,this]
  rw[hh];exact⟨rfl,rfl⟩
 exact .inr hh
theorem G5i{x:Ty}(E:x∈s.types){c:B8}(O:c∈Mf p s x):∃w g,w∈Nc p s x/\I4 p c=some (Dy c g)/\g∈Cv p [] x/\g.name=c.name/\w.name=(Dy c g).name/\pE w=pE (Dy c g):=by
 obtain⟨g,L,J,g3,_,_,Z,_⟩:=Yb h E O;have U:∃w,w∈Nc p s x/\w.name=(Dy c g).name:=by by_cases W:Bb p x 1=true;obtain⟨d,_,_,_,_,_,I⟩:=Ze W L;rw[J]at I;exact⟨⟨(Dy c g).name,[],F8 (Dy c g).params d.sig.params,(Dy c g).result,0⟩,(A5s h E).2 (.inl ⟨c,g,O,Z,L,J,by rw[A6 W];exact⟨d,I,rfl⟩⟩),rfl⟩;exact⟨_,(A5s h E).2 (.inl ⟨c,g,O,Z,L,J,by rw[A3 W]⟩),rfl⟩
 obtain⟨w,U,V⟩:=U;refine⟨w,g,U,Z,L,J,V,?_⟩;rcases C8c h E U with⟨c',g',k1,k2,k3,k4,k5,k6⟩|⟨g',k1,rfl⟩;rw[V]at k5;obtain⟨e1,e2⟩:=E3f (λt ht=>((Th h E c O).2.targs t ht).mg) (λt ht=>((Th h E c' k1).2.targs t ht).mg) k5;have:g'=g:=A3e (A9x p [] x) k3 L (by rw[k4,J,e1]);subst this;rw[k6,E3r rfl e1.symm e2.symm];exact absurd V (C5f (A3p h E k1) λt ht=>((Th h E c O).2.targs t ht).mg)
theorem F5i{x y:Ty}(L:x∈s.types)(E:y∈s.types)(a b:Int):Cg (Fq p s) [] (.mk x.mg [] a) (.mk y.mg [] b)=Cg p [] x y:=by
 by_cases Z:Bb p y 2=true
 .have J:isIface (Fq p s) [] (.mk y.mg [] b)=true:=by unfold isIface;rw[A2o h E b (.inr rfl),Z,A7d];rfl
  have I:isIface p [] y=true:=by unfold isIface;rw[Z,A7d];rfl
  rw[Am7];have e1:Cg (Fq p s) [] (.mk x.mg [] a) (.mk y.mg [] b)=true↔∀w,w∈Cv (Fq p s) [] (.mk y.mg [] b)->∃v,v∈Cv (Fq p s) [] (.mk x.mg [] a)/\v.name=w.name/\v.canon.er=w.canon.er:=by unfold Cg;rw[A6 J,E4];exact A6t
  have e2:Cg p [] x y=true↔∀w,w∈Cv p [] y->∃v,v∈Cv p [] x/\v.name=w.name/\v.canon.er=w.canon.er:=by unfold Cg;rw[A6 I,E4];exact A6t
  constructor;intro hq;refine e2.2 λw hw=>?_;have O:=Pd.2 hw;obtain⟨v,hv,hn,_⟩:=e1.1 hq (Zz (Ho w)) ((B4a h E b).2 ⟨Ho w,(A5s h E).2 (.inr ⟨w,O,rfl⟩),rfl⟩);obtain⟨g,hg,rfl⟩:=(B4a h L a).1 hv;have hn:g.name=Km w:=hn;rcases C8c h L hg with⟨c,U,k1,k2,k3,k4,k5,_⟩|⟨U,k1,rfl⟩;rw[hn]at k5;exact absurd k5 (C5f (A3p h E O) λt ht=>((Th h L c k1).2.targs t ht).mg);obtain⟨d1,d2,d3,d4⟩:=E6g (A3p h L k1) (A3p h E O) hn;exact⟨U,Pd.1 k1,d1,G9e d1 d2 d3 d4⟩
  .intro hp;refine e1.2 λw hw=>?_;obtain⟨g,hg,rfl⟩:=(B4a h E b).1 hw;rcases C8c h E hg with⟨c,gy,k1,k2,k3,k4,k5,k6⟩|⟨U,k1,rfl⟩;obtain⟨a0,y1,y2,_,_,_,_,c0,c1,c2,rfl,_⟩:=Yb h E k1;obtain⟨cx,m1,m2,m3,m4⟩:=D0h h (x:=x) c1 (R9 hp c2);obtain⟨w',gx,w1,w2,w3,w4,w5,w6⟩:=G5i h L m1;obtain⟨v,v1,W⟩:=A9h hp gy k3;have:v=gx:=A3e (A9x p [] x) v1 w3 (by rw[w4,m3,(A2f W).1,k4]);subst this;have V:Dy cx v=Dy ⟨y,c0.name,c0.targs⟩ gy:=E3r W m3 m4;refine⟨Zz w',(B4a h L a).2 ⟨w',w1,rfl⟩,?_,?_⟩;show w'.name=g.name;rw[w5,k5,V];rw[(E5o (C7o h L w1)).1,(E5o (C7o h E hg)).1,w6,k6,V]
   .obtain⟨v,v1,W,v3⟩:=e2.1 hp U (Pd.1 k1);have hd:Ho v=Ho U:=by unfold Ho;rw[G5z W v3]
    exact⟨Zz (Ho v),(B4a h L a).2 ⟨Ho v,(A5s h L).2 (.inr ⟨v,Pd.2 v1,rfl⟩),rfl⟩,by rw[hd],by rw[hd]⟩
 .have J:¬isIface (Fq p s) [] (.mk y.mg [] b)=true:=by unfold isIface;rw[A2o h E b (.inr rfl),Bi];exact λhh=>Z hh.1
  have I:¬isIface p [] y=true:=by unfold isIface;rw[Bi];exact λhh=>Z hh.1
  unfold Cg;rw[A3 J,A3 I,Am7,Sw,Sw];constructor;intro he;rw[Ia,Ia]at he;exact D2u (h.mg L) (h.mg E) (by simpa [Ty.name]using Gf Ty.name he);intro he;rw[Ia,Ia];simp only[Ty.name,Ty.args,It];rw[A7t he]
end
end Go.Abs
/- what a type or a call needs does not depend on places -/
namespace Go.Abs
open Go
theorem D1k{a b:B8}(E:a.on.er=b.on.er)(I:a.name=b.name)(J:a.targs.map Ty.er=b.targs.map Ty.er):Dk a b=0:=by unfold Dk;rw[A6 ((Ud _ _).2 E),A6 (Tx.2 I)];grind[Ud,Ia,Ro,I8]
theorem Kb.er{t u:Ty}{l:List Ty}(h:t.er=u.er)(k:Kb t l):Kb u l:=by obtain⟨w,E,e⟩:=k;exact⟨w,E,h.symm.trans e⟩
theorem Uy.er{c d:B8}{l:List B8}(h:Dk c d=0)(k:Uy c l):Uy d l:=by obtain⟨w,E,e⟩:=k;exact⟨w,E,G7x (F7a h) e⟩
theorem B0p{y:Ex}:∀{l:List Ex},y∈Em l↔∃k,k∈l/\y∈Cj k
 |[]=>by simp[Em]
 |a::l=>by rw[Em,C6,B0p];simp
theorem P7{e y:Ex}:y∈Cj e↔y=e\/∃k,k∈e.kids/\y∈Cj k:=by rw[Sp,B5,B0p]
mutual
theorem C6b(v:List A2)(a:List Ty):∀e:Ex,Cj (e.subst v a)=(Cj e).map (Ex.subst v a)
 |.mk k n t l ks q=>by rw[N2,Cj,Cj,Cp,N2 v a (.mk k n t l ks q)];have:(Ex.mk k n t l ks q).kids=ks:=rfl;rw[this,E6r v a ks]
theorem E6r(v:List A2)(a:List Ty):∀l:List Ex,Em (l.map (Ex.subst v a))=(Em l).map (Ex.subst v a)
 |[]=>rfl
 |e::l=>by rw[Cp,Em,Em,Hc,C6b v a e,E6r v a l]
end
theorem C3h{l m:List Param}(h:l.map (·.name)=m.map (·.name))(nm:A2):I2 l nm=I2 m nm:=by
 have key:∀l:List Param,l.findIdx? (λf=>decide (f.name=nm))=(l.map (·.name)).findIdx? (λs=>decide (s=nm)):=λl=>by rw[List.findIdx?_map];rfl
 grind[I2,Cw]
def VE(V1 E:List Param):Prop:=V1.map (λf=>(f.name,f.type.er))=E.map (λf=>(f.name,f.type.er))
theorem VE.names{V1 E:List Param}(h:VE V1 E):V1.map (·.name)=E.map (·.name):=by have:=Gf (List.map Prod.fst) h;rw[Dw,Dw]at this;exact this
theorem D4y{l:List Ty}{v:List A2}{a b:List Ty}(E:a.map Ty.er=b.map Ty.er):(l.map (Ty.subst v a)).map Ty.er=(l.map (Ty.subst v b)).map Ty.er:=by grind[List.map_congr_left,Hq]
theorem ek(v:List A2)(a:List Ty)(e:Ex):(e.subst v a).kind=e.kind:=by rw[N2];rfl
theorem en(v:List A2)(a:List Ty)(e:Ex):(e.subst v a).name=e.name:=by rw[N2];rfl
theorem et(v:List A2)(a:List Ty)(e:Ex):(e.subst v a).type=e.type.subst v a:=by rw[N2];rfl
theorem eg(v:List A2)(a:List Ty)(e:Ex):(e.subst v a).targs=e.targs.map (Ty.subst v a):=by rw[N2];rfl
theorem es(v:List A2)(a:List Ty)(e:Ex):(e.subst v a).kids=e.kids.map (Ex.subst v a):=by rw[N2];rfl
theorem C3w{l m:List Ak}(h:l.map Ak.er=m.map Ak.er):Ad l=Ad m:=by grind[Yk]
theorem F6s{p:Prog}{st:Bool}{V1 V2:List Param}(hV:VE V1 V2){v:List A2}{a b:List Ty}(a5:a.map Ty.er=b.map Ty.er) :∀(e:Ex) (t t':Ty),D6 ⟨p,st,[],V1⟩ (e.subst v a)=(t,none)->D6 ⟨p,st,[],V2⟩ (e.subst v b)=(t',none)->t.er=t'.er:=by
 intro e;induction e using Ex.induct with|_ e ih=>?_;intro t t' h L;rcases Jr.1 h with⟨k1,k,f,I,V,rfl⟩|⟨k1,_,_,_,rfl⟩|⟨w,ws,x,Z,hx,h⟩
 .rw[ek]at k1;rcases Jr.1 L with⟨_,k',f',J,U,rfl⟩|⟨k2,_⟩|⟨_,_,_,_,_,k2|k2|k2⟩
  .rw[en]at I J;simp only at I V J U;rw[C3h hV.names]at I;have:k=k':=by omega
   subst this;obtain⟨y,hy,e⟩:=Zo hV V;grind
  rw[ek]at k2;omega;all_goals grind[ek]
 .rw[ek]at k1;rcases Jr.1 L with⟨k2,_⟩|⟨_,_,_,_,rfl⟩|⟨_,_,_,_,_,k2|k2|k2⟩;rw[ek]at k2;omega;grind[et,Hq];all_goals grind[ek]
 .rcases Jr.1 L with⟨k2,_⟩|⟨k2,_⟩|⟨w',a3,x',E,a1,L⟩;grind[ek];grind[ek]
  .rw[es]at Z E;cases a2:e.kids with
   |nil=>grind
   |cons q qs =>
    rw[a2]at Z E;simp at Z E;obtain⟨rfl,rfl⟩:=Z;obtain⟨rfl,rfl⟩:=E;have W:=ih q (by grind) x x' hx a1;rcases h with⟨k1,s,hs,_,rfl⟩|⟨k1,_,k,f,I,V,rfl⟩|⟨k1,_,_,rfl⟩;rcases L with⟨_,s',a0,_,rfl⟩|⟨k2,_⟩|⟨k2,_⟩;obtain⟨s1,s2,_⟩:=A0t.1 hs;obtain⟨J,U,_⟩:=A0t.1 a0;obtain⟨s3,m3,e3⟩:=C5j W s1;have a4:=A2f e3;grind[en,A3e,A9x,Hq,C3w,eg,D4y];rw[ek]at k1 k2;omega;rw[ek]at k1 k2;omega
    .rcases L with⟨k2,_⟩|⟨_,_,k',f',J,U,rfl⟩|⟨k2,_⟩;rw[ek]at k1 k2;omega
     .have O:=C4q (p:=p) W;have hn:(Bo p x).map (·.name)=(Bo p x').map (·.name):=by have:=Gf (List.map Param.name) O;simpa [Dw,Param.er,Function.comp_def]using this
      rw[en]at I J;simp only at I V J U;rw[C3h hn]at I;have:k=k':=by omega
      subst this;obtain⟨y,hy,e⟩:=Zo O V;rw[U]at hy;cases hy;have:=Gf Param.type e;grind[Param.er]
     rw[ek]at k1 k2;omega
    grind[ek,et,Hq]
def A9n(p:Prog)(vars:List Param)(y:Ex)(E:List Ty)(cs:List B8):Prop :=(y.kind=3\/y.kind=5->Kb y.type E)/\∀v vs,y.kind=2->y.kids=v::vs->∀K,D6 ⟨p,false,[],vars⟩ v=(K,none)->Kb K E/\Uy ⟨K,y.name,y.targs⟩ cs
theorem Yt.toT{p:Prog}{vars:List Param}{y:Ex}{r:Am}(h:Yt p vars y r):A9n p vars y r.types r.calls :=⟨h.1,λv vs J E K U=>by
  obtain⟨L,O⟩:=h.2 v vs J E;have I:=E2z ⟨p,false,[],vars⟩ v;unfold A7v at I
  grind⟩
theorem A9n.sub{p:Prog}{V1 O:List Param}(hV:VE V1 O){v:List A2}{a b:List Ty}(I:a.map Ty.er=b.map Ty.er){y:Ex}{L:List Ty}{cs:List B8}(h:A9n p V1 (y.subst v a) L cs)(hk:∀q,q∈(y.subst v a).kids->∃K,D6 ⟨p,false,[],V1⟩ q=(K,none)) :A9n p O (y.subst v b) L cs:=by
 refine⟨λk=>?_,λw ws k2 J K hK=>?_⟩;rw[ek]at k;have:=h.1 (by rw[ek];exact k);refine this.er ?_;grind[et,Hq]
 .rw[ek]at k2;rw[es]at J;cases E:y.kids with
  |nil=>grind
  |cons q qs =>rw[E]at J;simp at J;obtain⟨rfl,rfl⟩:=J;obtain⟨V,u1⟩:=hk (q.subst v a) (by rw[es,E];simp);obtain⟨Z,W⟩:=h.2 (q.subst v a) (qs.map (Ex.subst v a)) (by rw[ek];exact k2) (by rw[es,E];rfl) V u1;have U:=F6s hV I q V K u1 hK;exact⟨Z.er U,W.er (D1k U (by rw[en,en]) (by rw[eg,eg];exact D4y I))⟩
theorem D8c{p:Prog}{x y:Ty}(h:x.er=y.er)(m:A2):Ga p x m=Ga p y m:=by
 have E:x.name=y.name:=by rw[<-A8q x,h,A8q]
 have I:x.args.length=y.args.length:=by have:=Gf (λt=>t.args.length) h;rw[Ia,Ia]at this;simpa [I8]using this
 grind[Ga,A2n]
theorem C6u{p:Prog}{x:Ty}{c:B8}{g:A4}:Mo p x c=some g↔g∈Cv p [] x/\g.name=c.name/\g.A1.length=c.targs.length/\Cg p [] x c.on=true:=by unfold Mo F5;rcases Lo (λs:A4=>decide (s.name=c.name)) (Cd p [] x)with⟨E,I⟩|⟨j,y,E,I,O⟩;rw[E,A6 (by decide)];grind[Pd];rw[E,A3 (by omega),Hx,I];simp only;have L:=Pd.1 (Bm I);simp at O;constructor;grind;rintro⟨J,U,V,W⟩;have:y=g:=A3e (A9x p [] x) L J (by grind);grind
def B5x(p:Prog)(x:Ty)(c:B8)(E:List Ty)(cs:List B8):Prop:=∀g,Mo p x c=some g->(∀t,t∈Wj g c->Kb t E)/\Kb (Vu g c) E/\∀d,Ga p x c.name=some d->∀y,y∈Cj (Jd d x c)->A9n p (P2 p d x c) y E cs
theorem B1w.toC{p:Prog}{x:Ty}{c:B8}{r:Am}(h:B1w p x c r):B5x p x c r.types r.calls:=λg E =>⟨(h g E).1,(h g E).2.1,λd hd y I=>((h g E).2.2 d hd y I).toT⟩
theorem B5x.er{p:Prog}(hg:Typed p){x U:Ty}{c O:B8}(L:x.er=U.er)(hc:Dk c O=0)(a7:Bx p [] x=none)(a5:Ux p c){ts:List Ty}{cs:List B8}(h:B5x p x c ts cs):B5x p U O ts cs:=by
 obtain⟨c1,c2,c3⟩:=C2e hc;intro g' a6;obtain⟨a1,a2,a3,a4⟩:=C6u.1 a6;obtain⟨g,m,e⟩:=C5j L.symm a1;have hl:c.targs.length=O.targs.length:=by have:=Gf List.length c3;simpa using this
 obtain⟨e1,e2,e3,e4⟩:=A2f e;have a8:g.A1.length=g'.A1.length:=by have:=Gf List.length e2;simpa using this
 have hs:Mo p x c=some g:=C6u.2 ⟨m,by grind,by omega,B2r L.symm c1.symm a4⟩;obtain⟨n1,n2,n3⟩:=h g hs;have I:(Ka x c).map Ty.er=(Ka U O).map Ty.er:=by
  have W:x.args.map Ty.er=U.args.map Ty.er:=by
   have:=Gf Ty.args L
   rwa [Ia,Ia,I8,I8]at this
  unfold Ka;rw[Hc,Hc,W,c3]
 refine⟨λt ht=>?_,?_,λd hd y V=>?_⟩
 .obtain⟨q',a0,rfl⟩:=Au.1 ht;obtain⟨i,hi⟩:=Pu a0;obtain⟨q,Z,eq⟩:=Zo e3.symm hi;have a9:q.type.er=q'.type.er:=by have:=Gf Param.type eq;simpa [Param.er]using this
  refine(n1 _ (Au.2 ⟨q,Bm Z,rfl⟩)).er ?_;grind[Hq,C3w]
 refine n2.er ?_;grind[Vu,Hq,C3w]
 .rw[<-D8c L,<-c2]at hd;obtain⟨b1,b2,_,_,b3,t,b4,_⟩:=C3g hg a7 a5 hs hd;unfold Jd at V b4;rw[C6b]at V;obtain⟨z,hz,rfl⟩:=Au.1 V;have J:z.subst (Ny d) (Ka x c)∈Cj (d.body.subst (Ny d) (Ka x c)):=by rw[C6b];exact Au.2 ⟨z,hz,rfl⟩
  have E:=C8u ((A7g hg.right).1 d b1 b2) x c;obtain⟨o1,K,hK⟩:=C5q E b4 _ J;refine(n3 d hd _ J).sub (V1:=P2 p d x c) ?_ I (λq Z=>C5n o1 hK q Z);unfold VE P2;rw[Dw,Dw];refine Hb λf _=>?_;simp only[Function.comp,Param.subst,Ew,Qo];rw[Hq,Hq,I]
end Go.Abs
/- the program of an instance set is right, has no type parameters, and declares all its types -/
namespace Go.Abs
open Go
theorem C9i{s:A2}{c:UInt8}(h:c∈s)(I:c.toNat<97):A9v s=false:=by
 unfold A9v;refine Cu λE=>?_;have:∀b,b∈s->97<=b.toNat:=by rcases E with rfl|rfl|rfl|rfl|rfl|rfl|rfl <;> decide
 have:=this c h;omega
theorem C9g{n:A2}(h:n.all Iz=true):(Dt n).all Iz=true:=by simp only[Dt,Dr,Ap6]at*;rintro c ⟨b,I,E⟩;split at E;simp only[B5,Fb,Fg,or_self]at E;rw[E];decide;rw[Qp.1 E];exact h _ I
theorem D3q:∀{n:A2},(95:UInt8) ∉Dt n->Dt n=n
 |[],_=>rfl
 |c::n,h=>by
  unfold Dt at h |-;rw[Aj9]at h |-;by_cases E:c=95
  rw[A6 E]at h;simp at h;rw[A3 E]at h |-;have:Dt n=n:=D3q λI=>h (C6.2 (.inr I));unfold Dt at this;rw[this];rfl
theorem B8h{c:UInt8}{r:A2}(h:isName (c::r)=true):cls c.toNat=1/\(c::r).all Iz=true/\A9v (c::r)=false:=by unfold isName at h;simp only[Bi,E4,Jj]at h;exact⟨h.1.1,h.1.2,h.2⟩
theorem E1v{c:UInt8}{r:A2}(E:cls c.toNat=1)(I:(c::r).all Iz=true)(J:A9v (c::r)=false):isName (c::r)=true:=by unfold isName;simp only[Bi,E4,Jj];exact⟨⟨E,I⟩,J⟩
theorem F7e{n:A2}(h:isName n=true):n.all Iz=true:=by
 cases n with
 |nil=>rfl
 |cons c r=>exact(B8h h).2.1
theorem C7w{n z:A2}(I:isName n=true)(U:z.all Iz=true)(hu:z=[]\/(95:UInt8)∈z):isName (Dt n++z)=true:=by
 cases n with
 |nil=>simp[isName]at I
 |cons c r =>
  obtain⟨L,W,Z⟩:=B8h I;have O:c≠95:=by rintro rfl;revert L;decide
  have e:Dt (c::r)=c::Dt r:=by simp[Dt,O]
  by_cases E:(95:UInt8)∈Dt (c::r)++z;have V:=C9i E (by decide);have J:=C9g W;rw[e,Nj]at*;refine E1v L ?_ V;rw[Rx,Bi]at J |-;rw[Ya,J.2,U];exact⟨J.1,rfl⟩
  .rcases hu with rfl|hu;rw[Gy]at E |-;rw[D3q E];exact I
   exact absurd (C6.2 (.inr hu)) E
theorem F4k{c:UInt8}(h:48<=c.toNat/\c.toNat<=57):Iz c=true:=by
 have:cls c.toNat=2:=by unfold cls;rw[A3 (show ¬letter (c.toNat:Int) by unfold letter;omega),A6 (show 48<=(c.toNat:Int)/\(c.toNat:Int)<=57 by omega)]
 unfold Iz;rw[this];decide
theorem D6v(i:Nat):(Lib.itoa (i:Int)).all Iz=true:=by rw[Tk,Dr];exact λc E=>F4k (D0s i c E)
theorem G5k(i:Nat):isName ([112]++Lib.itoa (i:Int))=true:=by refine E1v (by decide) ?_ ?_;rw[Rx,Bi];exact⟨by decide,D6v i⟩;obtain⟨c,r,e,E,I⟩:=C5b i;refine C9i (c:=c) ?_ (by omega);simp[Tk,e]
theorem H1g{E:A2}(hs:E.all Iz=true){l:List A2}(h:∀x,x∈l->x.all Iz=true):(Lib.join l E).all Iz=true:=by
 cases l with
 |nil=>rfl
 |cons x r =>
  rw[Lib.join_cons,Ya,h x (by simp),Cr];unfold Lib.joinTail;rw[Dr]at hs |-;intro c hc;obtain⟨z,I,hc⟩:=List.mem_flatten.1 hc;obtain⟨y,J,rfl⟩:=Au.1 I;rcases C6.1 hc with hc|hc
  exact hs c hc;exact Dr.1 (h y (by simp[J])) c hc
theorem C6j{l:List Ty}(h:∀t,t∈l->t.mg.all Iz=true):(H7 l).all Iz=true:=by unfold H7;split;rfl;rw[Ya,Ya,H1g (by decide) λx E=>by obtain⟨t,ht,rfl⟩:=Au.1 E;exact h t ht];decide
theorem E4s(l:List Ty):H7 l=[]\/(95:UInt8)∈H7 l:=by unfold H7;split;exact .inl rfl;exact .inr (by simp)
theorem B0w:∀{t:Ty},t.Mg->t.mg.all Iz=true:=by
 intro t h
 induction h with
 |loc i p U =>rw[Ty.Yv,A6 ⟨rfl,rfl⟩,Ya];have:(Dc i).drop 1=Lib.itoa (i:Int):=rfl;simp only[Ty.name];rw[this,D6v];decide
 |Ph n a p E W O V L =>
  rw[Ty.Yv];split
  .rename_i J;cases n with
   |nil=>simp[isName]at E
   |cons c r =>
    have I:=(B8h E).1;have:c=36:=by simpa [Ty.name]using J.1
    subst this;exact absurd I (by decide)
  simp only[Ty.name,Ty.args];rw[Ya,C9g (F7e E),C6j L];rfl
theorem B6m{t:Ty}(h:t.Mg)(E:isName t.name=true):isName t.mg=true:=by
 rw[Ty.Yv];split
 .rename_i I;cases e:t.name with
  |nil=>rw[e]at E;simp[isName]at E
  |cons c r =>
   rw[e]at E I;have J:=(B8h E).1;have:c=36:=by simpa using I.1
   subst this;exact absurd J (by decide)
 exact C7w E (C6j λu L=>B0w (h.arg u L)) (E4s _)
theorem D7r{n:A2}{l:List Ty}(E:isName n=true)(h:∀t,t∈l->t.Mg):isName (Dg n l)=true :=C7w E (C6j λu I=>B0w (h u I)) (E4s _)
theorem E6i{α:Type}{l:List α}{f:α->A2}(h:∀x,x∈l->(f x).all Iz=true):(l.flatMap f).all Iz=true:=by rw[Dr];intro c E;obtain⟨x,I,E⟩:=Ap6.1 E;exact Dr.1 (h x I) c E
theorem E9w{g:A4}(E:isName g.name=true)(J:∀f,f∈g.canon.A1->f.bound.Mg)(I:∀f,f∈g.canon.params->f.type.Mg)(hr:g.canon.result.Mg):isName (Km g)=true:=by unfold Km Js Jm;simp only[H8];refine C7w E ?_ (.inr (by simp));simp only[Ya];rw[E6i λf h=>by rw[Ya,B0w (J f h)];decide,E6i λf h=>by rw[Ya,B0w (I f h)];decide,B0w hr];decide
theorem D7a{p:Prog}(hr:p.right=true){x:Ty}:∀g,g∈Cv p [] x->isName g.name=true:=by
 intro s E;have V:Ct [] x=none:=by simp[Ct,Fi,Cw]
 simp only[Prog.right,Bi,Dr]at hr;have hr:=hr.1;unfold Cv at E;rw[V]at E;simp only[Rv,Nb,I5,Fm]at E;split at E;rename_i U;unfold H2 at E;rw[A6 U]at E;obtain⟨d,hd,_⟩:=N4 (by decide) U;rw[hd,Dh]at E;unfold Wm Ic at E;obtain⟨⟨y,i⟩,J,rfl⟩:=Au.1 E;have O:=Mt (Vt (Kr.1 J).1);have h:=hr d (Qb hd);simp only[Decl.right,A4.right,Bi,Dr]at h;exact(h.2.2.2.1 y O).1.1.1
 .unfold Gw at E;obtain⟨⟨d,i⟩,J,rfl⟩:=Au.1 E;have O:d∈p.decls:=Mt (Vt (Kr.1 J).1);have I:=(Kr.1 J).2;unfold J6 at I;simp only[Bi,E4]at I;have h:=hr d O;have L:d.Uc=true:=by simp only[Decl.right,Bi]at h;exact h.2.2.2.2.2
  unfold Decl.Uc at L;rw[A6 (by first|exact I.1.1.1|exact I.1.1|exact I.1)]at L;simp only[A4.right,Bi]at L;exact L.2.2.1.1.1.1
theorem C4d{n:A2}(h:isName n=true)(q:Int):(Ty.mk n [] q).right=true:=by unfold Ty.right;rw[Ty.A9m];simp[Ty.name,Ty.args,Ty.Kh,h]
theorem E1m{e f:Ex}(E:e.kind=f.kind)(I:e.kids.length=f.kids.length):e.Mi=f.Mi:=by unfold Ex.Mi;rw[E,I]
theorem D5b:∀{l:List Ex},(∀x,x∈l->x.right=true)->Ex.Vz l=true
 |[],_=>rfl
 |x::l,h=>by rw[Ex.Vz,h x (by simp),D5b λy E=>h y (by simp[E])];rfl
theorem D5y:∀{l:List Ex} {k:Ex},k∈l->∀z,z∈Cj k->z∈Em l
 |w::l,k,hk,z,E=>by rw[Em,C6];rcases B5.1 hk with rfl|hk;exact .inl E;exact .inr (D5y hk z E)
theorem E0b(e:Ex):e.T6=true↔((e.kind=3\/e.kind=5)/\e.type.right=true/\e.name=[]/\e.Mi=true)\/(¬(e.kind=3\/e.kind=5)/\e.type.right=false/\e.type.name=[]/\e.type.args=[]/\isName e.name=true/\e.Mi=true):=by
 unfold Ex.T6;have ht:e.typed=true↔(e.kind=3\/e.kind=5):=by unfold Ex.typed;rw[Xu,E4,E4]
 by_cases E:e.typed=true;rw[A6 E];have:=ht.1 E;simp[this,and_assoc];rw[A3 E];have:¬(e.kind=3\/e.kind=5):=λh=>E (ht.2 h);simp[this,and_assoc]
theorem G5j{f:Ex}(J:f.kind=3\/f.kind=5->isName f.type.mg=true/\f.name=[])(W:¬(f.kind=3\/f.kind=5)->f.type.mg=[]/\isName f.name=true/\∀t,t∈f.targs->t.Mg)(U:f.Mi=true):(Bf f).T6=true:=by
 rw[J5,E0b];have I:(Ex.mk f.kind (if f.kind=2 then Dg f.name f.targs else f.name) (.mk f.type.mg [] f.type.pos) [] (f.kids.map Bf) f.pos).Mi=true:=by refine Eq.trans (E1m (f:=f) ?_ ?_) U;rfl;exact Bc ..
 by_cases E:f.kind=3\/f.kind=5;exact .inl ⟨E,C4d (J E).1 _,(show(if f.kind=2 then Dg f.name f.targs else f.name)=[] by rw[A3 (by omega)];exact(J E).2),I⟩;obtain⟨O,L,V⟩:=W E;refine .inr ⟨E,(show(Ty.mk f.type.mg [] f.type.pos).right=false by rw[O];rfl),O,rfl,(show isName (if f.kind=2 then Dg f.name f.targs else f.name)=true from ?_),I⟩;split;exact D7r L V;exact L
theorem G3q{v:List A2}(hv:([]:A2) ∉v){a:List Ty}{B:Nat}:∀{e:Ex},e.right=true->(e.subst v a).Nq B->(∀y,y∈Cj (e.subst v a)->y.kind=3\/y.kind=5->isName y.type.name=true)->(Bf (e.subst v a)).right=true:=by
 intro e;induction e using Ex.induct with|_ e ih=>?_;intro hr W hn;rw[Ex.A1a,Bi,Bi]at hr;obtain⟨h1,h2,h3⟩:=hr;have hk:=A7q h1;have I:=hn _ (by rw[Sp];exact Au2);have V:=W.type;have Z:=W.targs.1;have E:(e.subst v a).kids=e.kids.map (Ex.subst v a):=by rw[Ws];rfl
 have a0:∀x,x∈(e.subst v a).kids->(Bf x).right=true:=λx L=>by have O:=L;rw[E]at L;obtain⟨y,U,rfl⟩:=Au.1 L;refine ih y U (hk y U) (W.kids _ O) λz hz=>hn z ?_;rw[Sp];exact B5.2 (.inr (D5y O z hz))
 have e1:(e.subst v a).kind=e.kind:=by rw[Ws];rfl
 have e2:(e.subst v a).name=e.name:=by rw[Ws];rfl
 have e3:(e.subst v a).type=e.type.subst v a:=by rw[Ws];rfl
 have h4:=(E0b e).1 h3;rw[Ex.A1a,Bi,Bi];refine⟨D5b λx L=>?_,by rw[J5];rfl,G5j (λJ=>⟨B6m (V J).mg (I J),?_⟩) (λJ=>?_) ?_⟩;rw[J5]at L;obtain⟨y,U,rfl⟩:=Au.1 L;exact a0 y U;rw[e1]at J;rw[e2];rcases h4 with h4|h4;exact h4.2.2.1;exact absurd J h4.1;rw[e1]at J;rcases h4 with h4|h4;exact absurd h4.1 J;rw[e2,e3,E3o hv h4.2.2.1 h4.2.2.2.1,C4e];exact⟨rfl,h4.2.2.2.2.1,λt ht=>(Z t ht).mg⟩;refine(E1m e1 (by rw[E,Bc])).trans ?_;rcases h4 with h4|h4;exact h4.2.2.2;exact h4.2.2.2.2.2
theorem E4k:∀e:Ex,Cj (Bf e)=(Cj e).map Bf:=by
 intro e;induction e using Ex.induct with|_ e I=>?_
 have key:∀l:List Ex,(∀x,x∈l->Cj (Bf x)=(Cj x).map Bf)->Em (l.map Bf)=(Em l).map Bf:=by
  intro l
  induction l with
  |nil=>intro _;rfl
  |cons x l E=>intro h;rw[Cp,Em,Em,h x (by simp),E λy J=>h y (by simp[J]),Hc]
 rw[Sp,Sp e,Cp,<-key _ I,show(Bf e).kids=e.kids.map Bf by rw[J5];rfl]
theorem F3k(e:Ex):A3v (Bf e)=true:=by unfold A3v;rw[E4k,Dr];intro x E;obtain⟨y,_,rfl⟩:=Au.1 E;rw[J5];rfl
theorem C7x{ps L:List Param}{f:Param}(O:f∈F8 ps L):∃a b,a∈ps/\b∈L/\f=⟨b.name,a.type,a.pos⟩:=by
 obtain⟨i,E⟩:=Pu O;simp only[F8,As7]at E;cases I:ps[i]? with
 |none=>rw[I]at E;simp at E
 |some a =>
  cases J:L[i]? with
  |none=>rw[I,J]at E;simp at E
  |some b =>rw[I,J]at E;simp only[B0]at E;exact⟨a,b,Bm I,Bm J,E.symm⟩
theorem C1s{p:Prog}(hr:p.right=true){d:Decl}(hd:d∈p.decls)(E:d.kind=3):isName d.recv=true/\∀f,f∈d.sig.params->isName f.name=true:=by simp only[Prog.right,Bi,Dr]at hr;have hr:=hr.1 d hd;unfold Decl.right Decl.Uc at hr;rw[A6 E]at hr;simp only[A4.right,Nd,Bi,Dr]at hr;exact⟨hr.2.2.2.2.2.1,λf I=>(hr.2.2.2.2.2.2.2.1.1.2 f I).1⟩
def QT(s:Am)(t:Ty):Prop:=t.args=[]/\(t.name=A5k\/∃u,u∈s.types/\t.name=u.mg)
theorem QT.of{s:Am}{t:Ty}(h:Kb t s.types)(q:Int):QT s (.mk t.mg [] q):=by obtain⟨u,E,e⟩:=h;exact⟨rfl,.inr ⟨u,E,A7t e⟩⟩
theorem QT.top{s:Am}:QT s A6j:=⟨rfl,.inl rfl⟩
section
variable {p:Prog} {s:Am} (h:Rf p s)
include h
theorem B5c{x:Ty}(E:x∈s.types):isName x.name=true:=by obtain⟨d,hd,_⟩:=A7n (C3i (h.wf E)).1;obtain⟨_,I,J⟩:=A9j hd;rw[<-I];exact(C8e h.Gc.right J).1
theorem G5p{t:Ty}(ht:Kb t s.types):isName t.name=true:=by
 obtain⟨u,E,e⟩:=ht;have:t.name=u.name:=by have:=Gf Ty.name e;cases t;cases u;simp only[Ty.er,Ty.name]at this |-;exact this
 rw[this];exact B5c h E
theorem QT.right{t:Ty}(ht:QT s t):t.right=true:=by obtain⟨n,a,q⟩:=t;obtain⟨E,I⟩:=ht;simp only[Ty.args,Ty.name]at E I;subst E;rcases I with rfl|⟨u,J,rfl⟩;exact C4d (by decide) q;exact C4d (B6m (h.mg J) (B5c h J)) q
structure SG(s:Am)(w:A4):Prop where
 name:isName w.name=true
 A1:w.A1=[]
 params:∀f,f∈w.params->isName f.name=true/\QT s f.type
 result:QT s w.result
theorem SG.right{w:A4}(g:SG s w):w.right=true:=by unfold A4.right Qg Nd;rw[g.name,g.A1,QT.right h g.result];simp only[Aq3,Cr,Ar5,Dr,Bi];exact λf E=>⟨(g.params f E).1,QT.right h (g.params f E).2⟩
omit h in
theorem SG.q{w:A4}(g:SG s w):C7r (QT s) w:=⟨λf E=>by rw[g.A1]at E;simp at E,λf E=>(g.params f E).2,g.result⟩
theorem SG.call{x:Ty}(E:x∈s.types){c:B8}(L:c∈Mf p s x){g:A4}(O:I4 p c=some g):SG s g:=by obtain⟨g',g1,g2,g3,g4,g5,g6,c0,m0,hi,e,hs⟩:=Yb h E L;rw[g6]at O;cases O;obtain⟨n1,n2,_⟩:=h.Bk.call x E c0 m0 g' hs;obtain⟨_,I⟩:=Th h E c L;refine⟨D7r ?_ λt ht=>(I.targs t ht).mg,rfl,λf U=>?_,QT.of (by have:=n2;rw[e];exact this) 0⟩;rw[<-g2];exact D7a h.Gc.right _ g1;unfold Dy Hf at U;obtain⟨i,y,W,V,rfl⟩:=mem_mapIdx U;refine⟨G5k i,QT.of ?_ 0⟩;have J:=Bm W;obtain⟨z,Z,rfl⟩:=Au.1 J;refine n1 _ ?_;unfold Wj;rw[e];exact Au.2 ⟨z,Z,rfl⟩
theorem SG.dum{x:Ty}(J:x∈s.types){g:A4}(I:g∈Cd p [] x):SG s (Ho g):=by have E:=A3p h J I;exact⟨E9w (D7a h.Gc.right _ (Pd.1 I)) E.A1 E.params E.result,rfl,λf L=>by simp[Ho]at L,QT.top⟩
structure DG(s:Am)(d:Decl):Prop where
 right:d.right=true
 q:G0g (QT s) d
 bare:G0i d=true
omit h in
theorem C9k{k:Int}(J:k=1\/k=2){n:A2}{fs:List Param}{ss:List A4}(L:isName n=true)(I:Nd fs=true)(hs:ss.all A4.right=true)(E:k=1->ss=[])(O:k=2->fs=[]):(headD k n fs ss).right=true:=by unfold Decl.right Decl.Uc;have e:(headD k n fs ss).B0t=true:=(show(decide (([]:A2)=[]) && (decide (([]:List A2).length=0) && (Pv Jc Jc && Sh V5 V5)))=true by decide +kernel);rw[e,A3 (show ¬(headD k n fs ss).kind=3 by show ¬k=3;omega)];simp only[headD];rw[L,I,hs];rcases J with rfl|rfl;rw[E rfl];rfl;rw[O rfl];rfl
theorem DG.hd{x:Ty}(L:x∈s.types):DG s (Jv p s x):=by
 have Z:=B6m (h.mg L) (B5c h L);have W:A3v V5=true:=by decide +kernel
 unfold Jv;split
 .rename_i V;have O:∀f,f∈Ig (Bo p x)->isName f.name=true/\QT s f.type:=λf O=>by obtain⟨y,J,rfl⟩:=Au.1 O;refine⟨?_,QT.of (h.Bk.fields x L V y J) 0⟩;unfold Bo at J;rw[A6 V]at J;obtain⟨d,hd,_⟩:=N4 (by decide) V;rw[hd,Dh]at J;unfold fieldsD at J;obtain⟨z,hz,rfl⟩:=Au.1 J;have hr:=h.Gc.right;simp only[Prog.right,Bi,Dr]at hr;have hr:=hr.1 d (Qb hd);simp only[Decl.right,Nd,Bi,Dr]at hr;exact(hr.2.2.1 z hz).1
  refine⟨C9k (.inl rfl) Z ?_ rfl (λ_=>rfl) (λh=>by omega),⟨by simp[headD],λf E=>(O f E).2,by simp[headD],λI=>absurd I (by simp[headD]),λI=>absurd I (by simp[headD])⟩,?_⟩;unfold Nd;rw[Dr];exact λf E=>by rw[(O f E).1,QT.right h (O f E).2];rfl
  show(decide (0+0+Jc.A1.length=0) && (A3v V5 && B0r []))=true;rw[W];rfl
 .have hs:∀g,g∈Wn p s x->SG s g:=λg hg=>by rcases C6.1 hg with hg|hg;obtain⟨c,hc,hm⟩:=Pb.1 hg;exact SG.call h L hc hm;obtain⟨g',U,rfl⟩:=Au.1 hg;exact SG.dum h L U
  refine⟨C9k (.inr rfl) Z rfl ?_ (λh=>by omega) (λ_=>rfl),⟨by simp[headD],by simp[headD],λg hg=>(hs g hg).q,λI=>absurd I (by simp[headD]),λI=>absurd I (by simp[headD])⟩,?_⟩;rw[Dr];exact λg hg=>SG.right h (hs g hg)
  .show(decide (0+0+Jc.A1.length=0) && (A3v V5 && B0r (Wn p s x)))=true;have:B0r (Wn p s x)=true:=by unfold B0r;rw[Dr];exact λg hg=>by rw[(hs g hg).A1];rfl
   rw[W,this];rfl
theorem DG.Iw{n:A2}(O:isName n=true){r:A2}(hr:isName r=true){g:A4}(E:SG s g){e:Ex}(L:e.right=true)(I:A3v e=true)(J:∀y,y∈Cj e->ExQ (QT s) y):DG s ⟨3,n,[],[],[],r,[],g,e,0⟩:=by refine⟨?_,⟨by simp,by simp,by simp,λ_=>E.q,λ_=>J⟩,?_⟩;unfold Decl.right Decl.Uc;rw[A6 (show(⟨3,n,[],[],[],r,[],g,e,0⟩:Decl).kind=3 from rfl)];show(isName n && (true && (true && (true && (true && (isName r && (true && (g.right && e.right))))))))=true;rw[O,hr,SG.right h E,L];rfl;show(decide (0+0+g.A1.length=0) && (A3v e && true))=true;rw[E.A1,I];rfl
omit h in
theorem ExQ.rgl{e:Ex}(I:∀y,y∈Cj e->y.kind=3\/y.kind=5->Kb y.type s.types):∀y,y∈Cj (Bf e)->ExQ (QT s) y:=λy E=>by rw[E4k]at E;obtain⟨z,L,rfl⟩:=Au.1 E;rw[J5];exact⟨λJ=>QT.of (I z L J) _,λt ht=>by simp[Ex.targs]at ht⟩
theorem DG.of{x:Ty}(J:x∈s.types):∀d,d∈H9 p s.calls x->DG s d:=by
 intro d hd;have hn:=B6m (h.mg J) (B5c h J);rw[A5q (h.wf J)]at hd;rcases B5.1 hd with rfl|hd;exact DG.hd h J;unfold N6 at hd;split at hd
 .rename_i hi;rcases C6.1 hd with hd|hd
  .obtain⟨c,V,hm⟩:=Pb.1 hd;obtain⟨d',g,e1,e2,e3,e4,e5⟩:=Xp h J hi V;rw[hm]at e5;cases e5;obtain⟨g',g1,g2,g3,g4,g5,g6,c0,m0,a2,ec,a1⟩:=Yb h J V;obtain⟨I,E,_,_⟩:=A2c e1;obtain⟨_,_,Z⟩:=B3f h.Gc.right I E;obtain⟨a0,W⟩:=Th h J c V;obtain⟨hq,_,_⟩:=B8r h.Xv h.sm h.Gc.right I E W;rw[a0]at hq;have U:∀y,y∈Cj (Jd d' x c)->y.kind=3\/y.kind=5->Kb y.type s.types:=λy L=>by obtain⟨_,_,n3⟩:=h.Bk.call x J c0 m0 g' a1;have:=n3 d' (by rw[<-e1,ec]) y (by rw[ec]at L;exact L);exact this.1
   refine DG.Iw h hn ?_ ?_ (G3q (B6y h.Gc.right I E) Z hq λy L hk=>G5p h (U y L hk)) (F3k _) (ExQ.rgl U);exact(C1s h.Gc.right I E).1;have O:=SG.call h J V e3;refine⟨O.name,rfl,λf hf=>?_,O.result⟩;obtain⟨a,b,ha,hb,rfl⟩:=C7x hf;exact⟨(C1s h.Gc.right I E).2 b hb,(O.params a ha).2⟩
  obtain⟨g,hg,rfl⟩:=Au.1 hd;refine DG.Iw h hn (by decide) (SG.dum h J hg) (by rw[Ex.A1a];decide +kernel) (by decide +kernel) λy L=>?_;rw[show Cj (Ex.mk 3 [] A6j [] [] 0)=[Ex.mk 3 [] A6j [] [] 0] from rfl,Qp]at L;rw[L];exact⟨λ_=>QT.top,λt ht=>by simp[Ex.targs]at ht⟩
 simp at hd
omit h in
theorem DG.top:DG s Na:=by refine⟨by decide +kernel,⟨by simp[Na,headD],by simp[Na,headD],by simp[Na,headD],λE=>absurd E (by decide),λE=>absurd E (by decide)⟩,by decide +kernel⟩
theorem DG.all:∀d,d∈(Fq p s).decls->DG s d:=λd hd=>by rcases B5.1 hd with rfl|hd;exact DG.top;obtain⟨x,E,hd⟩:=Ap6.1 hd;exact DG.of h E d hd
end
end Go.Abs
/- the sizes of the program of an instance set -/
namespace Go.Abs
open Go
theorem G2f{s:Am}(h:s.calls.length<=101)(x:B8):(Gp s x).calls.length<=101:=by
 unfold Gp;split;exact h
 .rename_i E;unfold Iu;cases e:Fy Dk x s.calls false []with
  |none=>exact h
  |some R =>have:=(A9e e).2.2;simp only[Az,I5,Fm]at this;simp only[Dh];omega
theorem D3y(p:Prog)(s:Am)(x:Ty):(Mf p s x).length<=101 :=foldI (Q:=λs:Am=>s.calls.length<=101) (L7 p s.calls x) (λs a _ h=>G2f h a) (Tf _)
theorem E2b(n:A2)(q:Int):(Ty.mk n [] q).Nn:=by unfold Ty.Nn;rw[Ty.A9m];simp[Ty.args,Ty.Kh]
structure DS(d:Decl):Prop where
 le:d.Le
 nn:d.Nn
 ln:d.Ln
theorem E7j:V5.Le:=⟨by decide +kernel,by decide +kernel⟩
theorem G7a:V5.Nn:=.mk _ _ _ _ _ _ (E2b ..) (by simp) (by simp)
theorem E8y:Jc.Nn:=⟨by decide,by simp[Jc],by simp[Jc],E2b ..⟩
theorem Decl.Le.ln{d:Decl}(h:d.Le)(E:d.vars=[])(I:¬d.kind=3->d.sig.Lm/\d.body.Lm):d.Ln :=⟨Dd h.A1 (by decide),Dd h.fields (by decide),Dd h.F6d (by decide),by rw[E];decide,I⟩
theorem DS.mk2{d:Decl}(h:d.Le)(I:d.Nn)(E:d.vars=[])(J:¬d.kind=3->d.sig.Lm/\d.body.Lm):DS d:=⟨h,I,h.ln E J⟩
theorem DS.head(k:Int)(n:A2){fs:List Param}{ss:List A4}(J:fs.length<=2000)(O:∀f,f∈fs->f.type.Nn)(L:ss.length<=3000)(I:∀g,g∈ss->g.Le/\g.Nn):DS (headD k n fs ss) :=.mk2 ⟨by simp[headD],J,L,λg E=>(I g E).1,⟨Tf _,Tf _⟩,E7j⟩ ⟨by simp[headD],by simp[headD],by simp[headD],O,λg E=>(I g E).2,E8y,G7a⟩ rfl λ_=>⟨D7t,E6a⟩
theorem DS.Iw(n r:A2){g:A4}(E:g.Le/\g.Nn){e:Ex}(I:e.Le)(J:e.Nn):DS ⟨3,n,[],[],[],r,[],g,e,0⟩ :=.mk2 ⟨by simp,by simp,by simp,by simp,E.1,I⟩ ⟨by simp,by simp,by simp,by simp,by simp,E.2,J⟩ rfl λL=>absurd rfl L
section
variable {p:Prog} {s:Am} (h:Rf p s)
include h
end
end Go.Abs
/- the program of an instance set is of a size that the checks take -/
namespace Go.Abs
open Go
theorem C6h{α:Type}(F:List α->Int->Int)(g:α->Int->Int)(L:∀k,F [] k=k)(J:∀x xs k,F (x::xs) k=if k<=2000 then F xs (g x k)else k)(E:∀x k,k+1<=g x k) :∀(l:List α) (k:Int),F l k<=2000->k+l.length<=F l k/\∀t,t∈l->∃I,k<=I/\g t I<=F l k
 |[],k,h=>by rw[L];simp
 |t::O,k,h=>by
  rw[J]at h |-;split at h
  .rename_i U;rw[A6 U];obtain⟨a,b⟩:=C6h F g L J E O (g t k) h;have:=E t k;refine⟨by rw[Ar];omega,λu hu=>?_⟩;rcases B5.1 hu with rfl|hu
   .exact⟨k,Int.le_refl _,by omega⟩
   .obtain⟨I,W,V⟩:=b u hu;exact⟨I,by omega,V⟩
  .omega
theorem Prog.F1m(p:Prog)(h:p.count<=600):p.decls.length<=600/\∀d,d∈p.decls->d.sigs.length<=600:=by
 unfold Prog.count at h;have I:=Ex.F7 p.main 0;obtain⟨a,b⟩:=C6h Jt Decl.count (λ_=>rfl) (λ_ _ _=>rfl) (λx k=>(Decl.G3 x k).1) p.decls (p.main.count 0) (by omega);refine⟨by omega,λd hd=>?_⟩;obtain⟨n,E,V⟩:=b d hd;have h:d.count n<=600:=by omega
 unfold Decl.count at h;generalize O:n+1+((d.name.length / 50:Nat):Int)+((d.recv.length / 50:Nat):Int)=m at h;obtain⟨W,_⟩:=A5n d.A1 m;obtain⟨E,_⟩:=A6d d.fields (Ca d.A1 m);have c:=C6h Eh A4.count (λ_=>rfl) (λ_ _ _=>rfl) (λx k=>(A4.G3 x k).1) d.sigs (D4 d.fields (Ca d.A1 m));obtain⟨U,_⟩:=A2x d.vars (Eh d.sigs (D4 d.fields (Ca d.A1 m)));generalize L:Ja d.vars (Eh d.sigs (D4 d.fields (Ca d.A1 m)))=z at*;unfold Decl.Si at h;obtain⟨f1,_⟩:=A4.G3 d.sig z;have J:=Ex.F7 d.body (d.sig.count z);split at h;have:=(c (by omega)).1;omega;omega
theorem E1u{p:Prog}(h:p.count<=600)(x:Ty):(Cd p [] x).length<=600:=by obtain⟨I,J⟩:=Prog.F1m p h;unfold Cd;rw[(Zf _).length_eq];unfold Cv;generalize(Ct [] x).getD x=y;split;rename_i E;unfold H2;rw[A6 E];obtain⟨d,hd,_⟩:=N4 (by decide) E;rw[hd,Dh];exact Dd (B5a _ _ _ _) (J d (Qb hd));split;exact Tf _;exact Dd (A7h ..) I
theorem C1t:∀{e y:Ex},y∈Cj e->y.name.length<=e.M7:=by intro e;induction e using Ex.induct with|_ e I=>?_;intro y hy;rw[Ex.B0v];rw[Sp,B5]at hy;rcases hy with rfl|hy;omega;obtain⟨k,E,hy⟩:=B0p.1 hy;have J:=I k E hy;have L:=B9t E;omega
theorem G6q{v:List A2}{a:List Ty}:∀{e y:Ex},y∈Cj (e.subst v a)->∃z,z∈Cj e/\y.name=z.name:=by intro e;induction e using Ex.induct with|_ e L=>?_;intro y hy;rw[N2,Sp,B5]at hy;rcases hy with rfl|hy;exact⟨e,by rw[Sp];simp,rfl⟩;obtain⟨k,J,hy⟩:=B0p.1 hy;obtain⟨k0,E,rfl⟩:=Au.1 J;obtain⟨z,I,O⟩:=L k0 E hy;exact⟨z,by rw[Sp];exact Aq9 _ (B0p.2 ⟨k0,E,I⟩),O⟩
theorem C2c{B:Nat}(hB:B<=1000000000000):∀{e:Ex},e.Sm->e.Nq B->e.Rs->(∀y,y∈Cj e->y.name.length<=1000000)->(Bf e).Sm:=by
 intro e;induction e using Ex.induct with|_ e W=>?_;intro hs J hr O;rw[J5];have Z:=O e (by rw[Sp];simp);obtain⟨V,a0⟩:=J.targs;refine .mk _ _ _ _ _ _ ?_ (.mk _ _ _ ?_ (by simp) (by simp)) (by simp) (by simp) (by rw[Bc];exact hs.kids.1) λk hk=>?_;split;unfold Dg;have I:=A3q e.name;have L:=C0t e.targs;rw[As];unfold sm;omega;unfold sm;omega
 .rcases hr.type with hk|hk|⟨I,L⟩;have:=(J.type (.inl hk)).len;have:=Ty.W9 e.type;unfold sm;omega;have:=(J.type (.inr hk)).len;have:=Ty.W9 e.type;unfold sm;omega
  .have:e.type.mg=[]:=by have:=C4e e.type.pos;cases ht:e.type with|mk n a q=>rw[ht]at I L this;simp only[Ty.name,Ty.args,Ty.pos]at I L this;subst I;subst L;exact this
   rw[this];simp
 obtain⟨k0,E,rfl⟩:=Au.1 hk;exact W k0 E (hs.kids.2 k0 E) (J.kids k0 E) (hr.kids k0 E) λy U=>O y (by rw[Sp];exact Aq9 _ (B0p.2 ⟨k0,E,U⟩))
section
variable {p:Prog} {s:Am} (h:Rf p s)
include h
theorem G1w{x:Ty}(E:x∈s.types):(H9 p s.calls x).length<=702:=by rw[A5q (h.wf E),Ar];unfold N6;split;have J:=D3y p s x;have I:=E1u h.Xv x;have L:=Ai4 (Ik Bf p) (Mf p s x);rw[As,Bc];omega;simp
theorem G1h:(Fq p s).decls.length<=100000:=by have I:=E0j (H9 p s.calls) 702 s.types λx E=>G1w h E;have J:=h.fd.len;show(Na::s.types.flatMap (H9 p s.calls)).length<=_;rw[Ar];have:s.types.length*702<=60*702:=Iv _ (by omega);omega
theorem C1z{t:Ty}(ht:QT s t):t.Sm:=by obtain⟨n,a,q⟩:=t;obtain⟨E,I⟩:=ht;simp only[Ty.args,Ty.name]at E I;subst E;refine .mk _ _ _ ?_ (by simp) (by simp);rcases I with rfl|⟨u,J,rfl⟩;decide;have L:=Ty.W9 u;have O:=(h.fd.types u J).len;unfold sm;omega
theorem E1x{x:Ty}(O:x∈s.types){w:A4}(hw:w∈Nc p s x)(I:SG s w):w.Sm/\w.params.length<=2000:=by
 have a2:=λg I=>A6b h.sm h.tl h.Gc.right (h.fd.sm.types.2 x O) (h.fd.types x O).args g (Pd.2 I);have key:∀{w:A4},SG s w->w.name.length<=60000000*sm->w.params.length<=2000->(∀f,f∈w.params->f.name.length<=60000000*sm)->w.Sm/\w.params.length<=2000:=λI W h2 Z =>⟨⟨W,by rw[I.A1];simp,⟨by unfold sm;omega,λf E=>⟨Z f E,C1z h (I.params f E).2⟩⟩,C1z h I.result⟩,h2⟩;rcases(A5s h O).1 hw with⟨c,g,hc,ha,L,hn,hh⟩|⟨g,L,rfl⟩
 .have J:=a2 g L;have a0:=(Th h O c hc).2;have U:(Dg c.name c.targs).length<=60000000*sm:=by unfold Dg;have W:=A3q c.name;have h2:=C0t c.targs;have Z:=J.nm;rw[hn]at Z;have h4:=a0.tl;rw[As];unfold sm;omega
  have V:(Dy c g).params.length=g.params.length:=by show(Hf _).length=_;rw[A4j,Bc]
  split at hh;obtain⟨d,hd,rfl⟩:=hh;obtain⟨a1,_⟩:=A2c hd;refine key I U ?_ λf E=>?_;show(F8 (Dy c g).params d.sig.params).length<=2000;unfold F8;rw[Ap3,V];have:=J.params.1;omega;obtain⟨a,b,_,hb,rfl⟩:=C7x E;exact((h.sm.decls.2 d a1).sig.params.2 b hb).name;rw[hh]at I |-;refine key I U (by rw[V];exact J.params.1) λf E=>?_;have E:f∈Hf (g.params.map (Param.subst (Ad g.A1) c.targs)):=E;unfold Hf at E;obtain⟨i,y,hy,a3,rfl⟩:=mem_mapIdx E;have W:=(Aw.1 hy).1;rw[Bc]at W;have h2:=J.params.1;have Z:=B2h i (by omega);simp only[Tk,As,Ar,Az];unfold sm;omega
 .refine key I ?_ (by simp[Ho]) λf E=>by simp[Ho]at E
  have:=((A6b h.sm h.tl h.Gc.right (h.fd.sm.types.2 x O) (h.fd.types x O).args g L).mono (C:=1200000000) (by decide)).C9n;show(Km g).length<=_;unfold sm;omega
omit h in
theorem C3k{k:Int}{n:A2}{fs:List Param}{ss:List A4}(E:n.length<=60000000*sm)(I:fs.length<=sm/\∀f,f∈fs->f.Sm)(J:ss.length<=sm/\∀g,g∈ss->g.Sm):(headD k n fs ss).Sm :=⟨E,by simp[headD],I,J,by simp[headD],by simp[headD],⟨by simp[headD,Jc],by simp[headD,Jc],by simp[headD,Jc],.mk _ _ _ (by simp) (by simp) (by simp)⟩,C1g⟩
theorem B7t{x:Ty}(E:x∈s.types):x.mg.length<=60000000*sm:=by have J:=Ty.W9 x;have I:=(h.fd.types x E).len;unfold sm;omega
theorem G7e{x:Ty}(E:x∈s.types):∀d,d∈H9 p s.calls x->d.Sm/\d.sig.params.length<=2000:=by
 intro d hd;have W:=DG.of h E d hd;rw[A5q (h.wf E)]at hd;rcases B5.1 hd with rfl|hd
 .have hz:(Jv p s x).sig=Jc:=by unfold Jv;split <;> rfl
  refine⟨?_,by rw[hz];simp[Jc]⟩;by_cases J:Bb p x 1=true
  .have e:Jv p s x=headD 1 x.mg (Ig (Bo p x)) []:=by unfold Jv;rw[A6 J]
   rw[e]at W |-;refine C3k (B7t h E) ⟨?_,λf Z=>⟨?_,C1z h (W.q.fields f Z)⟩⟩ (by simp)
   unfold Ig;rw[Bc];exact A5m h.sm x;obtain⟨y,hy,rfl⟩:=Au.1 Z;exact(B2q h.sm (h.fd.sm.types.2 x E) y hy).name
  .have e:Jv p s x=headD 2 x.mg [] (Wn p s x):=by unfold Jv;rw[A3 J]
   have e2:Nc p s x=Wn p s x:=by unfold Nc;rw[A3 J]
   rw[e];refine C3k (B7t h E) (by simp) ⟨?_,λg hg=>(E1x h E (by rw[e2];exact hg) ?_).1⟩;unfold Wn;have h1:=D3y p s x;have h2:=E1u h.Xv x;have h3:=Ai4 (I4 p) (Mf p s x);rw[As,Bc];unfold sm;omega;rcases C6.1 hg with hg|hg;obtain⟨c,L,U⟩:=Pb.1 hg;exact SG.call h E L U;obtain⟨g',a3,rfl⟩:=Au.1 hg;exact SG.dum h E a3
 .have J:Bb p x 1=true:=by unfold N6 at hd;split at hd;assumption;simp at hd
  have a2:d.sig∈Nc p s x:=by unfold Nc;rw[A6 J];exact List.mem_map_of_mem (f:=λd:Decl=>d.sig) hd
  obtain⟨m1,m2,m3,m4,m5⟩:=Xr h E hd;have a1:SG s d.sig:=by unfold N6 at hd;rw[A6 J]at hd;rcases C6.1 hd with hd|hd;obtain⟨c,L,U⟩:=Pb.1 hd;obtain⟨d',g,e1,e2,e3,e4,V⟩:=Xp h E J L;rw[U]at V;cases V;obtain⟨I,O,_,_⟩:=A2c e1;have hs:=SG.call h E L e3;refine⟨hs.name,rfl,λf Z=>?_,hs.result⟩;obtain⟨a,b,ha,hb,rfl⟩:=C7x Z;exact⟨(C1s h.Gc.right I O).2 b hb,(hs.params a ha).2⟩;obtain⟨g,hg,rfl⟩:=Au.1 hd;exact SG.dum h E hg
  obtain⟨s1,s2⟩:=E1x h E a2 a1;refine⟨?_,s2⟩;unfold N6 at hd;rw[A6 J]at hd;rcases C6.1 hd with hd|hd;obtain⟨c,L,U⟩:=Pb.1 hd;obtain⟨d',g,e1,e2,e3,e4,V⟩:=Xp h E J L;rw[U]at V;cases V;obtain⟨I,O,_,_⟩:=A2c e1;obtain⟨a4,a0⟩:=Th h E c L;obtain⟨b1,b2,b3⟩:=B8r h.Xv h.sm h.Gc.right I O a0;rw[a4]at b1 b2 b3;have a5:=(Prog.A7s p h.Xv).1 d' I;refine⟨B7t h E,by simp,by simp,by simp,(h.sm.decls.2 d' I).recv,by simp,s1,C2c (by decide) b2 b1 b3 λy hy=>?_⟩;obtain⟨z,hz,e⟩:=G6q hy;have:=C1t hz;rw[e];omega;obtain⟨g,hg,rfl⟩:=Au.1 hd;exact⟨B7t h E,by simp[Kq],by simp[Kq],by simp[Kq],by simp[Kq,sm],by simp[Kq],s1,.mk _ _ _ _ _ _ (by simp) (.mk _ _ _ (by decide) (by simp) (by simp)) (by simp) (by simp) (by simp) (by simp)⟩
theorem G9f:(Fq p s).Fit:=by
 have E:∀d,d∈(Fq p s).decls->d.Sm/\d.sig.params.length<=2000:=λd hd=>by rcases B5.1 hd with rfl|hd;exact⟨C3k (by decide) (by simp) (by simp),by simp[Na,headD,Jc]⟩;obtain⟨x,I,hd⟩:=Ap6.1 hd;exact G7e h I d hd
 have hl:=G1h h;obtain⟨q1,q2⟩:=E0p h.Xv h.sm h.Gc.right;have O:∀d,d∈(Fq p s).decls->d.A1=[]/\d.vars=[]/\d.sig.A1=[]/\∀g,g∈d.sigs->g.A1=[]:=λd hd=>by
  rcases B5.1 hd with rfl|hd;exact⟨rfl,rfl,rfl,by simp[Na,headD]⟩
  .obtain⟨x,I,hd⟩:=Ap6.1 hd;rw[A5q (h.wf I)]at hd;rcases B5.1 hd with rfl|hd;unfold Jv;split;exact⟨rfl,rfl,rfl,by simp[headD]⟩;rename_i L;refine⟨rfl,rfl,rfl,λg J=>C7o h I ?_⟩;unfold Nc;rw[A3 L];exact J
   .obtain⟨m1,m2,m3,V,m5⟩:=Xr h I hd;refine⟨V,m3,m5,λg J=>?_⟩;have:d.sigs=[]:=by unfold N6 at hd;split at hd;rename_i L;rcases C6.1 hd with hd|hd;obtain⟨c,Z,hm⟩:=Pb.1 hd;obtain⟨_,_,_,_,_,_,U⟩:=Xp h I L Z;rw[hm]at U;cases U;rfl;obtain⟨g,_,rfl⟩:=Au.1 hd;rfl;simp at hd
    rw[this]at J;simp at J
 refine⟨⟨⟨by unfold sm;omega,λd hd=>(E d hd).1⟩,C2c (B:=240000) (by decide) h.sm.main q1 q2 λy W=>?_⟩,hl,λd hd=>?_,λd hd=>by have:=(E d hd).2;unfold sm;omega⟩;have h1:=C1t W;have h2:=(Prog.A7s p h.Xv).2;omega;obtain⟨f1,f2,f3,f4⟩:=O d hd;exact⟨λg J=>by rw[f1,f4 g J];simp,by rw[f2,f3];simp⟩
end
end Go.Abs
/- a program and the program of its instance set make the same steps -/
namespace Go.Abs
open Go
structure C4f(p:Prog)(s:Am)(y:Ex):Prop where
 type:y.kind=3\/y.kind=5->Kb y.type s.types
 rs:(y.kind=3\/y.kind=5\/y.type.name=[]/\y.type.args=[])/\(y.kind=2\/y.targs=[])/\(y.kind=3\/y.kind=5->y.type.Mg)/\∀t,t∈y.targs->t.Mg
 call:∀v vs x,y.kind=2->y.kids=v::vs->D6 (Ss p) v=(x,none)->∃c0,c0∈s.calls/\Cg p [] x c0.on=true/\c0.name=y.name/\c0.targs.map Ty.er=y.targs.map Ty.er
structure Rn(p:Prog)(s:Am)(e:Ex):Prop where
 typed:∃t,D6 (Ss p) e=(t,none)
 one:e.One
 nodes:∀y,y∈Cj e->C4f p s y
theorem Uy.here{p:Prog}{c:B8}{l:List B8}(h:Uy c l):∃E,E∈l/\Cg p [] c.on E.on=true/\E.name=c.name/\E.targs.map Ty.er=c.targs.map Ty.er:=by obtain⟨d,hd,e⟩:=h;obtain⟨J,L,I⟩:=C2e e;exact⟨d,hd,Rk J,L.symm,I.symm⟩
theorem D8q{e:Ex}(hr:e.Rs)(I:e.Mq):∀y,y∈Cj e->(y.kind=3\/y.kind=5\/y.type.name=[]/\y.type.args=[])/\(y.kind=2\/y.targs=[])/\(y.kind=3\/y.kind=5->y.type.Mg)/\∀t,t∈y.targs->t.Mg:=λy J =>
 have h:=A8y (Q:=λy=>y.Rs/\y.Mq) (λ_ h x E=>⟨h.1.kids x E,h.2.kids x E⟩) e ⟨hr,I⟩ y J
 ⟨h.1.type,h.1.targs,h.2.type,h.2.targs⟩
theorem F0p{I:List A2}{vs:List Ex}:∀{e y:Ex},y∈Cj (e.Eo I vs)->(∃u,u∈vs/\y∈Cj u)\/∃z,z∈Cj e/\y=z.Hz (z.kids.map (Ex.Eo I vs)):=by
 intro e;induction e using Ex.induct with|_ e V=>?_;intro y E;rw[A6u]at E;have key:y∈Cj (e.Hz (e.kids.map (Ex.Eo I vs)))->(∃u,u∈vs/\y∈Cj u)\/∃z,z∈Cj e/\y=z.Hz (z.kids.map (Ex.Eo I vs)):=λE=>by rcases P7.1 E with rfl|⟨k,U,E⟩;exact .inr ⟨e,P7.2 (.inl rfl),rfl⟩;obtain⟨k0,J,rfl⟩:=Au.1 (show k∈e.kids.map (Ex.Eo I vs) from U);rcases V k0 J E with h|⟨z,O,rfl⟩;exact .inl h;exact .inr ⟨z,P7.2 (.inr ⟨k0,J,O⟩),rfl⟩
 unfold R6 at E;split at E
 .rename_i h;cases L:vs[(Cb (e.Hz (e.kids.map (Ex.Eo I vs))).name I 0).toNat]? with
  |none=>rw[L]at E;exact key E
  |some u=>rw[L]at E;exact .inl ⟨u,Bm L,E⟩
 exact key E
theorem Ux.er{p:Prog}{c d:B8}(h:Ux p c)(J:c.on=d.on)(V:c.name=d.name)(E:c.targs.map Ty.er=d.targs.map Ty.er):Ux p d:=by
 have hl:c.targs.length=d.targs.length:=by have:=Gf List.length E;simpa using this
 refine⟨by rw[<-J];exact h.on,λt ht=>?_,?_⟩;obtain⟨i,hi⟩:=Pu ht;obtain⟨u,I,e⟩:=Zo E.symm hi;exact C1y e (h.targs u (Bm I));obtain⟨g,L,U,W,Z⟩:=h.sig;rw[J]at L;refine⟨g,L,U.trans V,W.trans hl,Wp.2 λi f u O I=>?_⟩;obtain⟨w,hw,e⟩:=Zo E.symm I;exact B2r e (by rw[Hq,Hq,E]) (Wp.1 Z i f w O hw)
section
variable {p:Prog} {s:Am} (h:Rf p s)
include h
theorem G8n(L:∃t,D6 (Ss p) p.main=(t,none)):Rn p s p.main :=⟨L,(A7g h.Gc.right).2,λy E =>
  have I:=(h.Bk.main y E).toT;have hr:p.main.right=true:=by have:=h.Gc.right;unfold Prog.right at this;simp at this;exact this.2
  ⟨I.1,D8q (Ex.B3o hr) (Ex.A9r h.sm.main hr) y E,λv vs x k2 O J=>Uy.here (c:=⟨x,y.name,y.targs⟩) (I.2 v vs k2 O x J).2⟩⟩
omit h in
theorem Rn.kid{e k:Ex}(E:Rn p s e)(I:k∈e.kids):Rn p s k:=by obtain⟨t,ht⟩:=E.typed;exact⟨G1x E.one ht k I,E.one.out.2 k I,λy J=>E.nodes y (P7.2 (.inr ⟨k,I,J⟩))⟩
theorem C9x{e v:Ex}{vs:List Ex}(hR:Rn p s e)(k2:e.kind=2)(hk:e.kids=v::vs)(W:v.kind=3) :∃V E d g,V∈s.types/\v.type.er=V.er/\Bx p [] v.type=none/\Bb p v.type 1=true/\E∈s.calls/\Cg p [] V E.on=true/\E.name=e.name/\E.targs.map Ty.er=e.targs.map Ty.er/\Ga p v.type e.name=some d/\d∈p.decls/\d.kind=3 /\d.sig.A1.length=e.targs.length/\d.sig.params.length+1=e.kids.length/\Ux p ⟨E.on,e.name,e.targs⟩/\Mo p v.type ⟨E.on,e.name,e.targs⟩=some g /\(∀y,y∈Cj (Jd d v.type ⟨E.on,e.name,e.targs⟩)->A9n p (P2 p d v.type ⟨E.on,e.name,e.targs⟩) y s.types s.calls) /\∀(i:Nat) (f:Param) (u:Ex),(P2 p d v.type ⟨E.on,e.name,e.targs⟩)[i]?=some f->e.kids[i]?=some u->∃K,D6 (Ss p) u=(K,none)/\Cg p [] K f.type=true:=by
 obtain⟨t,ht⟩:=hR.typed;rcases Jr.1 ht with⟨h1,_⟩|⟨h1,_⟩|⟨v',a9,x,a0,hx,O⟩
 .omega
 .omega
 rw[hk]at a0;cases a0;obtain⟨l1,l2,l3,rfl⟩:=C7u W hx;rcases O with⟨_,g,hs,hK,_⟩|⟨k4,_⟩|⟨k5,_⟩
 rotate_left
 .omega
 .omega
 obtain⟨s1,s2,s3,s4,s5,s6⟩:=A0t.1 hs;obtain⟨d,d1,d2,d3,d4,rfl,d6⟩:=Ze l2 s1;have Z:d.sig.A1.length=e.targs.length:=by rw[<-s3];simp[A4.subst,A4.canon,H4]
 have a3:d.sig.params.length+1=e.kids.length:=by rw[s6];simp[A4.subst,A4.canon,Hr]
 have I:=called h.Gc.right h.Gc.head d1 d2 l1 l2 d3 Z s4 s5;obtain⟨V,U,ex⟩:=(hR.nodes v (P7.2 (.inr ⟨v,by rw[hk];simp,P7.2 (.inl rfl)⟩))).type (.inl W);obtain⟨E,L,i0,n0,e0⟩:=(hR.nodes e (P7.2 (.inl rfl))).call v vs _ k2 hk hx;have a6:Ux p ⟨E.on,e.name,e.targs⟩:=(h.gd.calls E L).er rfl n0 e0;have a7:Cg p [] V E.on=true:=R9 (Rk ex.symm) i0;have a1:Mo p v.type ⟨E.on,e.name,e.targs⟩=some (d.sig.canon.subst d.vars v.type.args):=C6u.2 ⟨s1,s2,s3,i0⟩;have a4:=(h.Bk.call V U E L).toC.er h.Gc ex.symm (D1k rfl n0 e0:Dk E ⟨E.on,e.name,e.targs⟩=0) (h.wf U) (h.gd.calls E L);rw[s2]at d6;obtain⟨_,_,_,m4⟩:=A7w h.Gc.head d1 d2;obtain⟨_,c2,c3⟩:=Z4 m4;have a2:Ad (d.sig.canon.subst d.vars v.type.args).A1=Ad d.sig.canon.A1:=by simp only[A4.subst,Ad,Dw];rfl
 refine⟨V,E,d,_,U,ex,l1,l2,L,a7,n0,e0,d6,d1,d2,Z,a3,a6,a1,(a4 _ a1).2.2 d d6,λi f u J hu=>?_⟩;unfold P2 Jz at J;rw[Db,P1]at J;obtain⟨f,J,rfl⟩:=J;cases i with
 |zero =>simp at J;rw[hk]at hu;simp at hu;subst J;subst hu;exact⟨v.type,hx,Rk I.self.symm⟩
 |succ i =>
  simp only[Q3]at J;rw[hk,Q3]at hu;have a5:(T7 (d.sig.canon.subst d.vars v.type.args) e.targs)[i]?=some (f.type.subst (d.vars++Ad d.sig.A1) (v.type.args++e.targs)):=by have a8:=(Aw.1 J).1;unfold T7;rw[a2];simp only[A4.subst,A4.canon,Hr];rw[Db,Db,S5,J];simp only[Ef,Param.subst];rw[<-I.inst _ (c2 f (Bm J))];rfl
  exact hK.2 i _ u a5 hu
omit h in
theorem F1s{e v:Ex}{d:Decl}{o:Ty}:A9d e v d=(Jd d v.type ⟨o,e.name,e.targs⟩).Eo (d.recv::d.sig.params.map (·.name)) e.kids:=rfl
theorem F4s(ag:∀d,d∈p.decls->(U3 p true d).bad=false):∀{e:Ex},Rn p s e->(Bn p e).2=1->∀y,y∈Cj (Bn p e).1->C4f p s y:=by
 intro e;induction e using Ex.induct with|_ e ih=>?_;intro L E;obtain⟨t,ht⟩:=L.typed;rw[S8]at E |-;rcases Z1 p e.kids with⟨ha,hb⟩|⟨i,k,ha,hi,hv,ao,hb⟩
 .rw[hb]at E |-;simp only at E |-;unfold Nt at E |-;by_cases h3:e.kind=3
  rw[A6 h3]at E;simp at E;rw[A3 h3]at E |-;rcases Jr.1 ht with⟨_,k,f,_,h2,_⟩|⟨h1,_⟩|⟨v,vs,x,I,hx,a'⟩
  grind;omega;have W:v∈e.kids:=by rw[I];simp
  have a0:v.kind=3:=by
   have:isVal v=true:=by grind[Lo]
   rw[A4h]at this;simp at this;exact this.2
  have h0:e.kids[0]?=some v:=by rw[I];rfl
  rw[h0]at E |-;simp only at E |-;by_cases k2:e.kind=2
  .rw[A6 k2]at E |-;obtain⟨x0,c0,d,g,am,ex,l1,l2,ak,ap,n0,e0,d6,d1,dk,ad,a3,ah,ai,a7,a6⟩:=C9x h L k2 I a0;unfold Wx at E |-;rw[d6]at E |-;simp only at E |-;rw[A6 ⟨ad,a3⟩];intro y O;rw[F1s (o:=c0.on)]at O;rcases F0p O with⟨u,hu,O⟩|⟨z,hz,rfl⟩
   exact L.nodes y (P7.2 (.inr ⟨u,hu,O⟩));have hn:=a7 z hz;have a5:=(B3f h.Gc.right d1 dk).2.2;have af:=D8q (e:=Jd d v.type ⟨c0.on,e.name,e.targs⟩) ((Ex.B3o a5).subst (B6y h.Gc.right d1 dk)) (Ex.Mq.subst (λu hu=>(C6.1 hu).elim (((L.nodes v (P7.2 (.inr ⟨v,W,P7.2 (.inl rfl)⟩))).rs.2.2.1 (.inl a0)).arg u) ((L.nodes e (P7.2 (.inl rfl))).rs.2.2.2 u)) (Ex.A9r (h.sm.decls.2 d d1).body a5)) z hz;refine⟨hn.1,af,λw ws x' z2 hw U=>?_⟩;have ae:z.kids.map (Ex.Eo (d.recv::d.sig.params.map (·.name)) e.kids)=w::ws:=hw;obtain⟨w0,aa,a2,rfl,_⟩:=List.map_eq_cons_iff.1 ae;obtain⟨_,_,_,_,_,tb,a9,_⟩:=C3g h.Gc l1 ah ai d6;obtain⟨a8,Kz,aj⟩:=C5q (C8u ((A7g h.Gc.right).1 d d1 dk) _ _) a9 z hz;obtain⟨K,hK⟩:=C5n a8 aj w0 (by rw[a2];simp);obtain⟨q1,q2⟩:=hn.2 w0 aa z2 a2 K hK;have ab:(P2 p d v.type ⟨c0.on,e.name,e.targs⟩).map (·.name)=d.recv::d.sig.params.map (·.name):=by unfold P2 Jz;rw[Dw];rfl
   have ac:e.kids.length=(P2 p d v.type ⟨c0.on,e.name,e.targs⟩).length:=by rw[<-a3];unfold P2 Jz;simp
   obtain⟨t',V,g2⟩:=D9y (A1p h.Gc.right h.Gc.head) (E4q p) (by simp) (vals:=e.kids) (vars':=[]) ac (λi f u hf hu=>by rw[Q7];exact a6 i f u hf hu) w0 K hK;rw[B6n,ab]at V;rw[Q7]at g2;have V:D6 (Ss p) _=_:=V;rw[U]at V;cases V;obtain⟨c1,m1,m2,m3,m4⟩:=q2.here (p:=p);exact⟨c1,m1,R9 g2 m2,m3,m4⟩
  rw[A3 k2]at E |-;by_cases k4:e.kind=4
  .rw[A6 k4]at E |-;unfold Vd at E |-;split
   .rename_i hc;rw[A6 hc]at E;cases U:v.kids[(Cw (λf:Param=>decide (f.name=e.name)) (Bo p v.type)).toNat]? with
    |none =>have:=List.getElem?_eq_none_iff.1 U;omega
    |some u=>exact λy O=>((L.kid W).kid (Bm U)).nodes y O
   rename_i hc;rw[A3 hc]at E;simp at E
  rw[A3 k4]at E |-;split
  unfold Ug;split;exact(L.kid W).nodes;exact L.nodes;exact L.nodes
 .rw[hb]at E |-;simp only at E |-;split at E;rotate_left
  rename_i hn;exact absurd E hn;rename_i Z;rw[A6 Z];have a4:=Bm hi;have a1:=L.kid a4;intro y O;rcases P7.1 O with rfl|⟨q,hq,O⟩
  .have hN:=L.nodes e (P7.2 (.inl rfl));refine⟨hN.type,hN.rs,λv vs x k2 J hx=>?_⟩;have J:e.kids.set i (Bn p k).1=v::vs:=J;have k2:e.kind=2:=k2;cases I:e.kids with
   |nil=>rw[I]at hi;simp at hi
   |cons a l =>
    rw[I]at J hi;cases i with
    |zero =>simp at hi J;obtain⟨rfl,_⟩:=J;subst hi;obtain⟨K,hK⟩:=a1.typed;obtain⟨t',V,g2⟩:=keeps h.Gc.right h.Gc.head ag a K hK Z;rw[hx]at V;cases V;obtain⟨c0,m1,m2,m3,m4⟩:=hN.call a l K k2 I hK;exact⟨c0,m1,R9 g2 m2,m3,m4⟩
    |succ i =>simp at J;obtain⟨rfl,_⟩:=J;exact hN.call a l x k2 I hx
  rcases Am4 (show q∈e.kids.set i (Bn p k).1 from hq)with hq|rfl;exact L.nodes y (P7.2 (.inr ⟨q,hq,O⟩));exact ih k a4 a1 Z y O
theorem F0b(E:∀d,d∈p.decls->(U3 p true d).bad=false){e:Ex}(I:Rn p s e)(J:(Bn p e).2=1):Rn p s (Bn p e).1:=by obtain⟨t,ht⟩:=I.typed;obtain⟨O,L,_⟩:=keeps h.Gc.right h.Gc.head E e t ht J;exact⟨⟨O,L⟩,F8t (A7g h.Gc.right).1 I.one,F4s h E I J⟩
omit h in
theorem F4j:∀e:Ex,isVal (Bf e)=isVal e:=by
 intro e
 induction e using Ex.induct with|_ e L=>?_
 rw[A4h,A4h];have U:(Bf e).kids=e.kids.map Bf:=by rw[J5];rfl
 have O:(Bf e).kind=e.kind:=by rw[J5];rfl
 rw[U,O]
 congr 1
 rw[Am7,C1e,C1e];exact⟨λI x E=>by rw[<-L x E];exact I _ (List.mem_map_of_mem E),λI x E=>by obtain⟨y,J,rfl⟩:=Au.1 E;rw[L y J];exact I y J⟩
omit h in
theorem D4p(e:Ex)(l:List Ex):Bf (e.Hz l)=(Bf e).Hz (l.map Bf):=by rw[J5 (e.Hz l),J5 e];rfl
omit h in
theorem G8q(I:List A2)(vs:List Ex):∀e:Ex,Bf (e.Eo I vs)=(Bf e).Eo I (vs.map Bf):=by
 intro e;induction e using Ex.induct with|_ e Z=>?_;have e1:(Bf e).kids=e.kids.map Bf:=by rw[J5];rfl
 have W:Bf (e.Hz (e.kids.map (Ex.Eo I vs)))=(Bf e).Hz ((Bf e).kids.map (Ex.Eo I (vs.map Bf))):=by
  rw[D4p,e1,Dw,Dw]
  congr 1
  exact Hb λx V=>Z x V
 rw[A6u,A6u,<-W];generalize hE:e.Hz (e.kids.map (Ex.Eo I vs))=E;have e3:(Bf E).kind=E.kind:=by rw[J5];rfl
 have O:E.kind=1->(Bf E).name=E.name:=λk=>by rw[J5];show(if E.kind=2 then _ else _)=_;rw[A3 (by omega)]
 unfold R6;rw[e3,Bc];by_cases J:E.kind=1/\0<=Cb E.name I 0/\Cb E.name I 0<vs.length;rw[A6 J,O J.1,A6 J,Db];cases vs[(Cb E.name I 0).toNat]? <;> rfl;rw[A3 J,A3];rintro⟨L,U⟩;rw[O L]at U;exact J ⟨L,U⟩
omit h in
theorem C8y{t:Ty}(ht:Kb t s.types):∃x,x∈s.types/\t.er=x.er/\t.mg=x.mg:=by obtain⟨x,E,e⟩:=ht;exact⟨x,E,e,A7t e⟩
theorem G9g{x:Ty}(J:x∈s.types)(U:Bb p x 1=true){I:B8}(Z:I∈s.calls)(a0:Cg p [] x I.on=true)(a:Int) :∃c d,c.on=x/\c.name=I.name/\c.targs.map Ty.er=I.targs.map Ty.er/\Ga p x I.name=some d/\∃E,Ga (Fq p s) (.mk x.mg [] a) (Dg I.name I.targs)=some E/\E.recv=d.recv/\E.vars=[]/\E.sig.A1=[]/\E.sig.params.map (·.name)=(d.sig.params.map (·.name)).take E.sig.params.length /\E.sig.params.length=d.sig.params.length/\E.body=Bf (Jd d x c):=by
 obtain⟨c,hc,h1,h2,h3⟩:=D0h h Z a0;obtain⟨d,g,m1,rfl,m3,m4,m5⟩:=Xp h J U hc;have L:(Dy c (d.sig.canon.subst d.vars x.args)).params.length=d.sig.params.length:=by show(Hf _).length=_;rw[A4j,Bc];simp[A4.subst,A4.canon,Hr]
 have W:(F8 (Dy c (d.sig.canon.subst d.vars x.args)).params d.sig.params).length=d.sig.params.length:=by unfold F8;rw[Ap3,L];omega
 have O:∀D,Ik Bf p c=some D->D∈N6 p s x:=λD hD=>by unfold N6;rw[A6 U];exact At5 _ (Pb.2 ⟨c,hc,hD⟩)
 have V:((N6 p s x).map λd=>d.sig.name).Nodup:=by have:=E5i h J;unfold Nc at this;rw[A6 U,Dw]at this;exact this
 have key:∀(l m:List Param),(F8 l m).map (·.name)=(m.take l.length).map (·.name):=λl=>by
  induction l with
  |nil=>intro m;simp[F8]
  |cons a l ih =>
   intro m;cases m with
   |nil=>simp[F8]
   |cons b m =>have:=ih m;unfold F8 at this |-;simp only[List.zipWith_cons_cons,Cp,Ar,Am2,this]
 obtain⟨D,hD,e1,e2,e3,e4,e5,e6,e7⟩:∃D,Ik Bf p c=some D/\D.recv=d.recv/\D.vars=[]/\D.sig.A1=[]/\D.sig.name=Dg c.name c.targs/\D.sig.params.map (·.name)=(d.sig.params.map (·.name)).take d.sig.params.length/\D.sig.params.length=d.sig.params.length/\D.body=Bf (Jd d x c) := ⟨_,m5,rfl,rfl,rfl,rfl,by show(F8 _ d.sig.params).map (·.name)=_;rw[key,L,List.map_take],W,rfl⟩;have hf:=C7b (nm:=x.mg) (λd hd=>⟨(Xr h J hd).2.1,(Xr h J hd).1⟩) V (O D hD);refine⟨c,d,h1,h2,h3,by rw[<-h2];exact m1,D,?_,e1,e2,e3,by rw[e5,e6],e6,e7⟩;rw[C8k h J U,<-hf,e4,h2,Dg,Dg,B6q h3]
theorem D1j:∀{e:Ex},Rn p s e->Bn (Fq p s) (Bf e)=(Bf (Bn p e).1,(Bn p e).2):=by
 intro e;induction e using Ex.induct with|_ e ih=>?_;intro hR;obtain⟨t,ht⟩:=hR.typed;have W:(Bf e).kind=e.kind:=by rw[J5];rfl
 have a2:(Bf e).type=.mk e.type.mg [] e.type.pos:=by rw[J5];rfl
 have J:(Bf e).targs=[]:=by rw[J5];rfl
 have I:(Bf e).kids=e.kids.map Bf:=by rw[J5];rfl
 have L:(Bf e).name=if e.kind=2 then Dg e.name e.targs else e.name:=by rw[J5];rfl
 have hL:∀l:List Ex,(∀k,k∈l->k∈e.kids)->Lp (Fq p s) (l.map Bf)=(Lp p l).map λr=>(r.1.map Bf,r.2):=λl=>by
  induction l with
  |nil=>intro _;rw[It,Lp,Lp];rfl
  |cons k l ae =>intro hl;rw[Cp,Lp,Lp,F4j];split;rw[ae λx hx=>hl x (by simp[hx]),Option.map_map,Option.map_map];rfl;have hk:=hl k (by simp);rw[ih k hk (hR.kid hk)];rfl
 rw[S8,S8 p e,I,hL e.kids λ_ hk=>hk];rcases Z1 p e.kids with⟨ha,hb⟩|⟨i,k,ha,hi,hv,ap,hb⟩;rotate_left;rw[hb];simp only[Ef];by_cases h1:(Bn p k).2=1;rw[A6 h1,A6 h1,D4p];rw[A3 h1,A3 h1];rw[hb];simp only[Ao6];unfold Nt;rw[W,I];by_cases h3:e.kind=3;rw[A6 h3,A6 h3];rw[A3 h3,A3 h3];rcases Jr.1 ht with⟨_,k,f,_,h2,_⟩|⟨h1,_⟩|⟨v,vs,x,a1,hx,a'⟩;grind;omega;have a7:v∈e.kids:=by rw[a1];simp
 have U:v.kind=3:=by
  have:isVal v=true:=by grind[Lo]
  rw[A4h]at this;simp at this;exact this.2
 have h0:e.kids[0]?=some v:=by rw[a1];rfl
 rw[Db,h0];simp only[Ef];have ag:=hR.kid a7;obtain⟨x0,O,Z,af⟩:=C8y ((ag.nodes v (P7.2 (.inl rfl))).type (.inl U));have E:(Bf v).type=.mk x0.mg [] v.type.pos:=by rw[J5,<-af];rfl
 have a0:(Bf v).kids=v.kids.map Bf:=by rw[J5];rfl
 obtain⟨l1,l2,l3,rfl⟩:=C7u U hx;have a3:Bb p x0 1=true:=by rw[<-A2n Z];exact l2
 by_cases k2:e.kind=2
 .rw[A6 k2,A6 k2];obtain⟨x1,c0,d,g,a4,am,_,_,aj,ak,n0,e0,d6,d1,dk,ac,a5,_⟩:=C9x h hR k2 a1 U;have:x1=x0:=E0o h a4 O (am.symm.trans Z);subst this;obtain⟨c,d',q1,q2,q3,q4,d2,q5,q6,q7,q8,q9,a6,ad⟩:=G9g h a4 a3 aj ak v.type.pos;have hd:d'=d:=by rw[<-D8c Z,n0,d6]at q4;cases q4;rfl
  subst hd;have V:(Bf e).name=Dg c0.name c0.targs:=by rw[L,A6 k2,n0,Dg,Dg,B6q e0]
  unfold Wx;rw[E,V,q5,d6];simp only;rw[A6 ⟨by rw[q8,J];rfl,by rw[I,Bc,a6,a5]⟩,A6 ⟨ac,a5⟩];simp only[Ew,T9];unfold A9d;rw[q6,q7,q8,E,J,q9,a6,Ym (by simp),ad,I,G8q];have e5:(Bf (Jd d' x1 c)).subst ([]++Ad []) ((Ty.mk x1.mg [] v.type.pos).args++[])=Bf (Jd d' x1 c):=B6n _;rw[e5]
  congr 1
  unfold Jd;have a9:d'.body.Rs:=Ex.B3o (B3f h.Gc.right d1 dk).2.2;refine G9p (B6y h.Gc.right d1 dk) ?_ _ a9;unfold Ka;rw[Hc,Hc,q3,e0,<-B0g,<-B0g,Z]
 rw[A3 k2,A3 k2];by_cases k4:e.kind=4
 .rw[A6 k4,A6 k4];unfold Vd;have ah:=F6v h O a3 v.type.pos;have V:(Bf e).name=e.name:=by rw[L,A3 k2]
  have ai:Cw (λf:Param=>decide (f.name=e.name)) (Bo (Fq p s) (Bf v).type)=Cw (λf:Param=>decide (f.name=e.name)) (Bo p v.type):=by
   rw[E,ah];refine C3h (nm:=e.name) ?_;have e1:∀l:List Param,l.map (·.name)=(l.map Param.er).map (·.name):=λl=>by rw[Dw];rfl
   unfold Ig;rw[Dw,show((λf:Param=>f.name) ∘ λf=>⟨f.name,Pm f.type,0⟩)=λf:Param=>f.name from rfl,e1,e1 (Bo p v.type),C4q Z]
  rw[V,ai,a0,Bc];have ao:Bb (Fq p s) (Bf v).type 1=true:=by rw[E,A2o h O _ (.inl rfl)];exact a3
  rw[ao,l2];simp only[Qo];split
  .rename_i hc;rw[Db];cases aa:v.kids[(Cw (λf:Param=>decide (f.name=e.name)) (Bo p v.type)).toNat]? with
   |none =>have:=List.getElem?_eq_none_iff.1 aa;omega
   |some u=>rfl
  rfl
 rw[A3 k4,A3 k4];by_cases k5:e.kind=5
 .rw[A6 k5,A6 k5];obtain⟨y0,a8,ey,ab⟩:=C8y ((hR.nodes e (P7.2 (.inl rfl))).type (.inr k5));unfold Ug;rw[E,a2,ab,F5i h O a8];have:Cg p [] x0 y0=Cg p [] v.type e.type:=by rw[Am7];exact⟨B2r Z.symm ey.symm,B2r Z ey⟩
  rw[this];split <;> rfl
 rw[A3 k5,A3 k5]
end
end Go.Abs
/- run.Pair of a program and of that of its instance set -/
namespace Go.Abs
open Go
theorem E9h{B:Nat}(W:B<=1000000000):∀{e:Ex},e.Sm->e.Nq B->(∀y,y∈Cj e->y.name.length<=4000*sm)->Pk mtT Dg e:=by intro e;induction e using Ex.induct with|_ e U=>?_;intro hs h hy;obtain⟨k,n,t,a,ks,q⟩:=e;have J:=h.type;have L:=h.targs;have O:=h.kids;refine .mk _ _ _ _ _ _ (λI=>G0a t (J I).mg (by have:=(J I).len;simp only[Ex.type]at this;omega)) (λI=>F6t n (hy _ (P7.2 (.inl rfl))) a hs.targs.1 (λu V=>(L.1 u V).mg) (by have:=L.2;simp only[Ex.targs]at this;omega)) λx E=>U x E (hs.kids.2 x E) (O x E) λy I=>hy y (P7.2 (.inr ⟨x,E,I⟩))
theorem run_shape{p:Prog}{s:Am}:∀{e:Ex},(∀y,y∈Cj e->C4f p s y)->e.Rs/\e.Mq:=by intro e;induction e using Ex.induct with|_ e U=>?_;intro L;have I:=(L e (P7.2 (.inl rfl))).rs;have J:=λx E=>U x E λy O=>L y (P7.2 (.inr ⟨x,E,O⟩));exact⟨.mk e I.1 I.2.1 λx E=>(J x E).1,.mk e I.2.2.1 I.2.2.2 λx E=>(J x E).2⟩
section
variable {p:Prog} {s:Am} (h:Rf p s)
include h
theorem D8r{e:Ex}(L:Rn p s e)(V:e.count 0<=400):e.Sm/\(Bf e).Sm/\Pk mtT Dg e/\Gg mtT Dg e=Bf e:=by obtain⟨E,O⟩:=run_shape L.nodes;have hs:=Ex.G3 e 0 (by decide) (by omega);have U:=Ex.B3u e 0 (by omega);have I:=O.nq (B:=240000) (by omega);exact⟨hs,C2c (B:=240000) (by decide) hs I E λy J=>by have:=C1t J;omega,E9h (by decide) hs I λy J=>by have:=C1t J;unfold sm;omega,G3y e E⟩
theorem D8z(W:∀d,d∈p.decls->(U3 p true d).bad=false):∀{n:Nat} {e:Ex},Rn p s e->(Hg p n e).2.2.2=true ->A8d p (Fq p s) mtT Dg n e (Bf e)/\Ls p (Fq p s) (Gg mtT Dg) n e (Bf e)=((Hg p n e).2.1,true)
 |0,e,O,E=>by
  rw[Hg]at E |-;by_cases V:e.count 0 > 400
  .rw[A6 V]at E;simp at E
  obtain⟨Z,J,h3,U⟩:=D8r h O (by omega);rw[A3 V,Ls,To,U,C4g,A6 rfl,D1j h O,A6 rfl];exact⟨⟨Z,J,h3,U.symm ▸ J⟩,by split <;> rfl⟩
 |n+1,e,O,E=>by
  rw[Hg]at E |-;by_cases V:e.count 0 > 400
  .rw[A6 V]at E;simp at E
  obtain⟨Z,J,h3,U⟩:=D8r h O (by omega);rw[A3 V]at E |-;have I:=D1j h O;rw[Ls,To,U,C4g,A6 rfl];by_cases L:(Bn p e).2=1
  .rw[A6 L]at E |-;obtain⟨i1,i2⟩:=D8z W (F0b h W O L) E;rw[I,A6 rfl,A6 L,i2];exact⟨⟨⟨Z,J,h3,U.symm ▸ J⟩,λ_ _ _=>by rw[I];exact i1⟩,rfl⟩
  .rw[I,A6 rfl,A3 L,A3 L];exact⟨⟨⟨Z,J,h3,U.symm ▸ J⟩,λ_ hh=>absurd hh L⟩,rfl⟩
end
end Go.Abs
