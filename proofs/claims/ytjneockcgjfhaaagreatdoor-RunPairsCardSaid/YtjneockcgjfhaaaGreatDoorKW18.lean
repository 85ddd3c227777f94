/- castingsref18: sig, Decl, Edges; castingsref19: has, Reach, Leads, Expansive, Is -/
import Derived.Test.YtjneockcgjfhaaaGreatDoorKW13
import Derived.Test.YtjneockcgjfhaaaGreatDoorKW14
set_option linter.all false
set_option maxHeartbeats 4000000
set_option maxRecDepth 100000
namespace Go.Abs
open Go Go.Proofs Tryz
abbrev D9k(s:A4):List SV:=[.d (.str s.name),.d (.slice (Ax s.A1)),.d (.slice (Ay s.params)),.d (.str s.result.name),.d (.slice (Ag s.result.args)),.d (.int .i64 s.result.pos),.d (.int .i64 s.pos)]
abbrev Vk:List Nat:=[0,1,2,5,6,7,8,13,37]
def C2y(s:List He)(hs:s.length<=10*sm)(l:List Bt)(x:A4)(hf:x.A1.length<=sm)(hp:x.params.length<=sm)(hl:l.length+x.al*x.al<=1000000000000):Ab prog 152 [H0 l,Rh s,E0 x] (H0 (Ue s l x)):=by
 have O:∃R1,x.A1.foldl (λl f=>Gu s false f.bound.name 0 l f.bound.args) l=R1:=⟨_,rfl⟩;obtain⟨R1,O⟩:=O;have U:∃R2,x.params.foldl (λl p=>Gu s false p.type.name 0 l p.type.args) R1=R2:=⟨_,rfl⟩;obtain⟨R2,U⟩:=U;have e0:Ue s l x=Gu s false x.result.name 0 R2 x.result.args:=by unfold Ue;rw[O,U]
 rw[e0];unfold A4.al at hl;obtain⟨B,hB⟩:∃B,B=Pe x.params+Ty.Bu x.result.args:=⟨_,rfl⟩;obtain⟨C,hC⟩:∃C,C=Ty.Bu x.result.args:=⟨_,rfl⟩;refine cB func152 ?_;refine sR Vk ?_;refine kR Vk λK1 u1=>?_;refine A0.bb (A0.ii x.A1 (X:=List Bt) (λj z=>[(0,H0 z),(1,Rh s),(5,.box 5 0),(7,A7 j)]) (λj z=>[(5,.cells (D9k x))]) (λj z=>(x.A1.drop j).foldl (λl f=>Gu s false f.bound.name 0 l f.bound.args) z=R1/\z.length+(Tq (x.A1.drop j)+B)*(Tq (x.A1.drop j)+B)<=1000000000000) l ⟨O,by rw[Zu,hB];rw[Xo]at hl;exact hl⟩ sS sB ?_ ?_);rotate_left
 .intro j z d hd a0 Z tk V E;obtain⟨E,I⟩:=E;have hj:=(Aw.1 hd).1;rw[Z,Mr]at E;have e1:Tq (x.A1.drop j)+B=Ty.Bu d.bound.args+(Tq (x.A1.drop (j+1))+B):=by rw[Z];simp only[Tq,Cp,Nf];omega
  rw[e1]at I;have J:=X4 s d.bound.args false d.bound.name 0 z;have h1:=A6x I J;have h2:=Ta (Ty.Bu d.bound.args) (Tq (x.A1.drop (j+1))+B);have W:=B2p s hs false d.bound.name d.bound.args z (by omega);generalize Gu s false d.bound.name 0 z d.bound.args=z2 at*;refine Ae V Vk λL u2=>?_;refine gI u2 ?_;clear u2 L;refine sK λL u2=>A0.bb ?_;(refine lG Vk [] 16 [] λK z=>?_;refine ev ?_;refine ci (Fc hd) ?_;refine ci (Fc hd) ?_;refine cc W ?_;apply z;clear z K;try simp only[A5,A9]);refine u2 _ _ ?_;clear u2 L;refine lT Vk ?_;exact⟨z2,⟨E,h1⟩,sS,by simp[ble,A8]⟩
 intro z E;obtain⟨E,I⟩:=E;rw[D3]at E I;rw[We]at E;subst E;have a2:z.length+(Pe x.params+C)*(Pe x.params+C)<=1000000000000:=by
  have:Tq []+B=Pe x.params+C:=by rw[hB,hC];simp[Tq]
  rw[this]at I;exact I
 refine Ae B6 Vk λL u2=>?_;refine A0.ss rfl ?_;simp only[A5,A9,Ac];refine u1 _ _ ?_;clear u2 L u1 K1;refine kR Vk λK1 u1=>?_;refine A0.bb (A0.ii x.params (X:=List Bt) (λj z=>[(0,H0 z),(1,Rh s),(5,.box 5 0),(8,A7 j)]) (λj z=>[(5,.cells (D9k x))]) (λj z=>(x.params.drop j).foldl (λl p=>Gu s false p.type.name 0 l p.type.args) z=R2/\z.length+(Pe (x.params.drop j)+C)*(Pe (x.params.drop j)+C)<=1000000000000) z ⟨U,by rw[Zu];exact a2⟩ sS sB ?_ ?_);rotate_left
 .intro j z d hd a0 Z tk V E;obtain⟨E,I⟩:=E;have hj:=(Aw.1 hd).1;rw[Z,Mr]at E;have e1:Pe (x.params.drop j)+C=Ty.Bu d.type.args+(Pe (x.params.drop (j+1))+C):=by rw[Z];simp only[Pe,Cp,Nf];omega
  rw[e1]at I;have J:=X4 s d.type.args false d.type.name 0 z;have h1:=A6x I J;have h2:=Ta (Ty.Bu d.type.args) (Pe (x.params.drop (j+1))+C);have W:=B2p s hs false d.type.name d.type.args z (by omega);generalize Gu s false d.type.name 0 z d.type.args=z2 at*;refine Ae V Vk λL u2=>?_;refine gI u2 ?_;clear u2 L;refine sK λL u2=>A0.bb ?_;(refine lG Vk [] 16 [] λK z=>?_;refine ev ?_;refine ci (Dx hd) ?_;refine ci (Dx hd) ?_;refine cc W ?_;apply z;clear z K;try simp only[A5,A9]);refine u2 _ _ ?_;clear u2 L;refine lT Vk ?_;exact⟨z2,⟨E,h1⟩,sS,by simp[ble,A8]⟩
 intro z E;obtain⟨E,I⟩:=E;rw[D3]at E I;rw[We]at E;subst E;have a1:z.length+Ty.Bu x.result.args*Ty.Bu x.result.args<=1000000000000:=by
  have:Pe []+C=Ty.Bu x.result.args:=by rw[hC];simp[Pe]
  rw[this]at I;exact I
 have W:=B2p s hs false x.result.name x.result.args z a1;generalize Gu s false x.result.name 0 z x.result.args=z2 at*;refine Ae B6 Vk λL u2=>?_;refine A0.ss rfl ?_;simp only[A5,A9,Ac];refine u1 _ _ ?_;clear u2 L u1 K1;refine sC W Vk ?_;exact aR
abbrev Ky:List Nat:=[0,1,3,4,5,6,7,8,9,12,37,87]
def G5o(l:List Bt)(d:Decl)(hd:d.Sm)(a2:(Cj d.body).length<=sm)(hl:l.length+d.al*d.al<=1000000000000):Ab prog 101 [H0 l,Pz d] (H0 (A4t l d)):=by
 have ab:=hd.vars.1;have a6:=hd.A1.1;have ad:=hd.sigs.1;have a4:=hd.sig.A1.1;rw[E6b];unfold Decl.al at hl;by_cases hk:d.kind=3
 .rw[A6 hk]at hl |-;have a5:=B8k [] false d.name d.vars (by simp) ab;have hn:=Qh d.sig.A1 a4;rw[show d.sig.A1.map (·.name)=Ad d.sig.A1 from rfl]at hn;have O:=B5p [] false d.name d.vars;have L:(Ad d.sig.A1).length<=sm:=by simpa [Ad]using a4
  generalize Lt [] false d.name d.vars=s1 at*;simp only[Az,Qe]at O;have a3:=B8k s1 true d.sig.name (Ad d.sig.A1) (by unfold sm at*;omega) L;have a0:=B5p s1 true d.sig.name (Ad d.sig.A1);generalize Lt s1 true d.sig.name (Ad d.sig.A1)=s at*;have hs:s.length<=10*sm:=by unfold sm at*;omega
  have a9:=Ta d.sig.al (U0 (Cj d.body));have hg:=C2y s hs l d.sig a4 hd.sig.params.1 (by omega);have J:=A8p s l d.sig;have aa:=D2v d.body a2;have V:=A6x hl J;generalize Ue s l d.sig=z0 at*;have W:∃R,(Cj d.body).foldl (exE s) z0=R:=⟨_,rfl⟩;obtain⟨R,W⟩:=W;rw[W];generalize Cj d.body=es at*;refine cB func101 ?_;refine sR Ky ?_;refine Ae hk Ky λK1 u1=>?_;refine A0.tt rfl ?_;refine sG Ky [] 12 [] λK z=>?_;refine ev ?_;refine cc a5 ?_;refine cc hn ?_;refine cc a3 ?_;apply z;clear z K;refine sC hg Ky ?_;refine sC aa Ky ?_;refine kR Ky λK2 u2=>?_;refine A0.bb (A0.ii es (X:=List Bt) (λj z=>[(0,H0 z),(5,Rh s),(6,.d (.slice (Bj es))),(7,A7 j)]) (λj z=>[]) (λj z=>(es.drop j).foldl (exE s) z=R/\z.length+U0 (es.drop j)*U0 (es.drop j)<=1000000000000) z0 ⟨W,V⟩ sS (by simp[ble]) ?_ ?_);rotate_left
  .intro j z e he a1 dp tk a7 E;obtain⟨E,V⟩:=E;have hj:=(Aw.1 he).1;rw[dp,Mr]at E;have e1:U0 (es.drop j)=A0r e+U0 (es.drop (j+1)):=by rw[dp];simp only[U0,Cp,Nf]
   rw[e1]at V;have h1:=A6x V (D2z s z e);have h2:=Ta (A0r e) (U0 (es.drop (j+1)));have h3:=Ta (Ty.Bu e.type.args) (Ty.Bu e.targs);have h4:=X4 s e.type.args false e.type.name 0 z;have ac:=B2p s hs false e.type.name e.type.args z (by unfold A0r at*;omega);unfold exE at E h1;unfold A0r at*;generalize Gu s false e.type.name 0 z e.type.args=z1 at*;have a':=B2p s hs true e.name e.targs z1 (by omega);generalize Gu s true e.name 0 z1 e.targs=z2 at*;refine Ae a7 Ky λU I=>?_;refine gI I ?_;clear I U;refine sK λU I=>A0.bb ?_;refine sG Ky [] 14 [] λK z=>?_;refine ev ?_;refine ci (Ck he) ?_;refine ci (Ck he) ?_;refine cc ac ?_;apply z;clear z K;(refine lG Ky [] 12 [] λK z=>?_;refine ev ?_;refine ci (Ck he) ?_;refine ci (Ck he) ?_;refine cc a' ?_;apply z;clear z K;try simp only[A5,A9]);refine I _ _ ?_;clear I U;refine lT Ky ?_;exact⟨z2,⟨E,h1⟩,sS,by simp[ble]⟩
  intro z E;obtain⟨E,_⟩:=E;rw[D3,We]at E;subst E;refine Ae B6 Ky λU I=>?_;refine A0.ss rfl ?_;simp only[A5,A9,Ac];refine u2 _ _ ?_;clear I U u2 K2;refine sR Ky ?_;exact aR
 .rw[A3 hk]at hl |-;have hn:=Qh d.A1 a6;rw[show d.A1.map (·.name)=Ad d.A1 from rfl]at hn;have L:(Ad d.A1).length<=sm:=by simpa [Ad]using a6
  have a5:=B8k [] false d.name (Ad d.A1) (by simp) L;have O:=B5p [] false d.name (Ad d.A1);simp only[Az,Qe]at O;generalize Lt [] false d.name (Ad d.A1)=s at*;have hs:s.length<=10*sm:=by unfold sm at*;omega
  have a8:=D5j d;have a9:=Ta (Tq d.A1+Pe d.fields) (A0h d.sigs);have hg:=C2y s hs l (A2g d) a6 hd.fields.1 (by rw[a8];omega);have J:=A8p s l (A2g d);rw[a8]at J;have V:=A6x hl J;generalize Ue s l (A2g d)=z0 at*;unfold A2g at hg;have W:∃R,d.sigs.foldl (sgE s) z0=R:=⟨_,rfl⟩;obtain⟨R,W⟩:=W;rw[W];refine cB func101 ?_;refine sR Ky ?_;refine Ae hk Ky λK1 u1=>?_;refine A0.ff rfl (A0.kk (u1 _ _ ?_));clear u1 K1;refine sG Ky [] 5 [] λK z=>?_;refine ev ?_;refine cc hn ?_;refine cc a5 ?_;apply z;clear z K;refine sC hg Ky ?_;refine kR Ky λK2 u2=>?_;refine A0.bb (A0.ii d.sigs (X:=List Bt) (λj z=>[(0,H0 z),(3,.box 3 0),(8,Rh s),(9,A7 j)]) (λj z=>[(3,.cells (deS d))]) (λj z=>(d.sigs.drop j).foldl (sgE s) z=R/\z.length+A0h (d.sigs.drop j)*A0h (d.sigs.drop j)<=1000000000000) z0 ⟨W,V⟩ sS sB ?_ ?_);rotate_left
  .intro j z x hx a1 dp tk a7 E;obtain⟨E,V⟩:=E;have hj:=(Aw.1 hx).1;rw[dp,Mr]at E;have e1:A0h (d.sigs.drop j)=x.al+A0h (d.sigs.drop (j+1)):=by rw[dp];simp only[A0h,Cp,Nf]
   rw[e1]at V;have Z:=hd.sigs.2 x a1;have hn:=Qh x.A1 Z.A1.1;rw[show x.A1.map (·.name)=Ad x.A1 from rfl]at hn;have L:(Ad x.A1).length<=sm:=by simpa [Ad]using Z.A1.1
   have a3:=B8k s true x.name (Ad x.A1) hs L;have a0:=B5p s true x.name (Ad x.A1);unfold sgE at E;have h1:=A6x V (A8p (Lt s true x.name (Ad x.A1)) z x);have h2:=Ta x.al (A0h (d.sigs.drop (j+1)));have hc:=C2y (Lt s true x.name (Ad x.A1)) (by rw[a0];unfold sm at*;omega) z x Z.A1.1 Z.params.1 (by omega);generalize Lt s true x.name (Ad x.A1)=s2 at*;generalize Ue s2 z x=z2 at*;refine Ae a7 Ky λU I=>?_;refine gI I ?_;clear I U;refine sK λU I=>A0.bb ?_;(refine lG Ky [] 21 [] λK z=>?_;refine ev ?_;refine ci (De hx) ?_;refine ci (De hx) ?_;refine cc hn ?_;refine cc a3 ?_;refine ci (De hx) ?_;refine cc hc ?_;apply z;clear z K;try simp only[A5,A9]);refine I _ _ ?_;clear I U;refine lT Ky ?_;exact⟨z2,⟨E,h1⟩,sS,by simp[ble,A8]⟩
  intro z E;obtain⟨E,_⟩:=E;rw[D3,We]at E;subst E;refine Ae B6 Ky λU I=>?_;refine A0.ss rfl ?_;simp only[A5,A9,Ac];refine u2 _ _ ?_;clear I U u2 K2;refine sR Ky ?_;exact aR
abbrev A1k:List Nat:=[0,1,2,3,4,9]
def F8o(p:Prog)(h:p.Sm)(J:∀d,d∈p.decls->(Cj d.body).length<=sm)(hl:Pj p.decls<=72000):Ab prog 38 [Cq p] (H0 (A5b p)):=by
 have a0:=h.decls.1;have O:∃R,p.decls.foldl A4t []=R:=⟨_,rfl⟩;obtain⟨R,O⟩:=O;unfold A5b;rw[O];have V:([]:List Bt).length+Pj p.decls*Pj p.decls<=1000000000000:=by have:Pj p.decls*Pj p.decls<=72000*72000:=Nat.mul_le_mul hl hl;simp only[Az];omega
 refine cB func38 ?_;refine sR A1k ?_;refine sR A1k ?_;refine kR A1k λK1 u1=>?_;refine A0.bb (A0.ii p.decls (X:=List Bt) (λj z=>[(1,.box 1 0),(3,H0 z),(4,A7 j)]) (λj z=>[(1,.cells ((Ai p).map .d))]) (λj z=>(p.decls.drop j).foldl A4t z=R/\z.length+Pj (p.decls.drop j)*Pj (p.decls.drop j)<=1000000000000) [] ⟨O,V⟩ (by simp[sle,Av,Af,Lj]) (by simp[ble,A8,Ai]) ?_ ?_);rotate_left
 .intro j z d hd I Z tk U E;obtain⟨E,W⟩:=E;have hj:=(Aw.1 hd).1;rw[Z,Mr]at E;have e1:Pj (p.decls.drop j)=d.al+Pj (p.decls.drop (j+1)):=by rw[Z];simp only[Pj,Cp,Nf]
  rw[e1]at W;have h1:=A6x W (D6t z d);have h2:=Ta d.al (Pj (p.decls.drop (j+1)));have hc:=G5o z d (h.decls.2 d I) (J d I) (by omega);generalize A4t z d=z2 at*;refine Ae U A1k λL u2=>?_;refine gI u2 ?_;clear u2 L;refine sK λL u2=>A0.bb ?_;(refine lV A1k λK z=>?_;refine ci (Ek hd) ?_;refine cc hc ?_;apply z;clear z K;try simp only[A5,A9]);refine u2 _ _ ?_;clear u2 L;refine lT A1k ?_;exact⟨z2,⟨E,h1⟩,sS,by simp[ble,A8,Ai]⟩
 intro z E;obtain⟨E,_⟩:=E;rw[D3,We]at E;subst E;refine Ae B6 A1k λL u2=>?_;refine A0.ss rfl ?_;simp only[A5,A9,Ac];refine u1 _ _ ?_;clear u2 L u1 K1;refine sR A1k ?_;exact aR
abbrev Zy:List Nat:=[0,1,3,4,5,9,17]
def C7n(l:List E5)(n:E5)(V:l.length<=1000000000000):Ab prog 149 [.d (.slice (Us l)),Uu n] (B1 (decide (n∈l))):=by
 refine cB func149 ?_;refine sR Zy ?_;refine kR Zy λZ u1=>?_;refine A0.bb (A0.ii l (X:=Unit) (λj _=>[(0,.d (.slice (Us l))),(3,.box 3 0),(5,A7 j)]) (λj _=>[(3,.cells (noS n))]) (λj _=>decide (n∈l)=decide (n∈l.drop j)) () rfl sS sB ?_ ?_);rotate_left
 .intro j _ d hd I U tk L E;have W:=(Aw.1 hd).1;rw[U]at E;refine sK λJ u2=>?_
  (refine sQ Zy λK z=>?_;simp -implicitDefEqProofs only[EV,Nat.reduceEqDiff,reduceCtorEq,A3d,L,Zh];apply z;clear z K)
  refine gI u2 ?_;clear u2 J;refine sK λJ u2=>A0.bb ?_;by_cases O:d=n
  .subst O;rw[Cc I]
   (refine sG Zy [] 5 [] λK z=>?_;refine ev ?_;refine⟨by omega,_,E2c hd,rfl,?_⟩;(try simp -implicitDefEqProofs only[EV,Nat.reduceAdd,Nat.reduceEqDiff,reduceCtorEq,Ng,noC]);refine⟨_,Yg d d rfl rfl,?_⟩;(try refine ev ?_);apply z;clear z K)
   refine A0.tt rfl<|sR Zy ?_;exact aR
  ·(refine sG Zy [] 5 [] λK z=>?_;refine ev ?_;refine⟨by omega,_,E2c hd,rfl,?_⟩;(try simp -implicitDefEqProofs only[EV,Nat.reduceAdd,Nat.reduceEqDiff,reduceCtorEq,Ng,noC]);refine⟨_,Yg d n rfl rfl,?_⟩;(try refine Ah O ?_);apply z;clear z K)
   refine A0.ff rfl (A0.kk (u2 _ _ ?_));clear u2 J
   (refine lV Zy λK z=>?_;refine cl ?_;apply z;clear z K;try simp only[A5,])
   exact⟨(),by rw[E];simp[Yo O],sS,by simp[ble,A8]⟩
 intro _ E;rw[D3]at E;rw[E,show decide (n∈([]:List E5))=false by simp]at u1;refine sK λJ u2=>?_;refine sQ Zy λK z=>?_;simp -implicitDefEqProofs only[EV,Nat.reduceEqDiff,reduceCtorEq,A3d,B6,Zh];apply z;clear z K;refine A0.ss rfl ?_;simp only[A5,A9,Ac];refine u1 _ _<|sR Zy ?_;exact aR
def D0u{α:Type}[DecidableEq α]:∀{out m:List α},out.Nodup->(∀x,x∈out->x∈m)->out.length<=m.length
 |[],_,_,_=>by simp
 |x::xs,m,h,hs=>by rw[Ao7]at h;have E:=hs x (by simp);have J:=D0u (m:=m.erase x) h.2 λy I=>(List.mem_erase_of_ne (by rintro rfl;exact h.1 I)).2 (hs y (by simp[I]));rw[List.length_erase_of_mem E]at J;have:=List.length_pos_of_mem E;rw[Ar];omega
structure Vx(l:List Bt)(out:List E5):Prop where
 nd:out.Nodup
 sub:∀x,x∈out->x∈l.map (·.dst)
def Vx.len{l:List Bt}{out:List E5}(h:Vx l out):out.length<=l.length:=by
 have:=D0u h.nd h.sub
 rwa [Bc]at this
def Vx.step{l:List Bt}{out:List E5}(h:Vx l out)(n:E5){e:Bt}(I:e∈l):Vx l (R0 n out e):=by unfold R0;split;rename_i J;refine⟨?_,λx hx=>?_⟩;rw[As1];exact⟨h.nd,by simp,λa L b E=>by simp only[B5,Fb,Fg]at E;rintro rfl;exact J.2 (E ▸ L)⟩;rcases C6.1 hx with hx|hx;exact h.sub x hx;simp only[B5,Fb,Fg]at hx;subst hx;exact Au.2 ⟨e,I,rfl⟩;exact h
def F1b(n:E5)(out:List E5)(e:Bt):out.length<=(R0 n out e).length:=by unfold R0;split <;> simp
def D2y(n:E5):∀(l:List Bt)(out:List E5),out.length<=(l.foldl (R0 n) out).length
 |[],_=>by simp
 |e::l,out=>by rw[Mr];exact Dd (F1b n out e) (D2y n l _)
abbrev M0:List Nat:=[0,1,3,4,5,6,7,11,17,45]
def G3f(l:List Bt)(n:E5)(hl:l.length<=1000000000000):Ab prog 150 [H0 l,Uu n] (.d (.slice (Us (A3m l n)))):=by
 have hR:∃R,A3m l n=R:=⟨_,rfl⟩;obtain⟨R,hR⟩:=hR;rw[hR];unfold A3m at hR;refine cB func150 ?_;refine sR M0 ?_;refine sR M0 ?_;refine A0.pp 5 3 5 rfl<|kR M0 λK1 u1=>?_;refine A0.bb (A0.loop (X:=Nat × Int × List E5) (λz=>[(0,H0 l),(3,.box 3 0),(5,.acc 5),(6,A7 z.2.1)]) (λz=>[(3,.cells (noS n)),(5,.rows 3 (Us z.2.2))]) (λz=>A2z l n z.1 z.2.1 z.2.2=R/\Vx l z.2.2/\(z.2.1=(z.2.2.length:Int)\/l.length+3<=z.1+z.2.2.length)) (λz=>z.1) (l.length+3,-1,[]) ⟨hR,⟨by simp,by simp⟩,.inr (by simp)⟩ sS (by simp[ble,A8,Us]) ?_)
 rintro⟨k,c,out⟩ ⟨hI,hO,hF⟩;simp only at hI hO hF |-;have a4:=hO.len;by_cases hc:c=(out.length:Int)
 .have a1:R=out:=by
   cases k with
   |zero=>rw[A2z]at hI;exact hI.symm
   |succ k=>rw[A2z,A6 hc]at hI;exact hI.symm
  subst a1;refine sK λZ u2=>?_
  (refine sQ M0 λK z=>?_;simp -implicitDefEqProofs only[EV,Nat.reduceEqDiff,reduceCtorEq,A3d,hc,Zh,];apply z;clear z K)
  refine A0.ss rfl ?_;simp only[A5,A9,Ac];refine u1 _ _ ?_;clear u2 Z u1 K1;refine sR M0 ?_;exact aR
 have a5:=hF.resolve_left hc;cases k with
 |zero=>omega
 |succ k =>
 rw[A2z,A3 hc]at hI;refine sK λZ u2=>?_
 (refine sQ M0 λK z=>?_;simp -implicitDefEqProofs only[EV,Nat.reduceEqDiff,reduceCtorEq,A3d,hc,Zh,];apply z;clear z K)
 refine gI u2 ?_;clear u2 Z;refine A0.bb ?_
 (refine sQ M0 λK z=>?_;simp -implicitDefEqProofs only[EV,Nat.reduceEqDiff,reduceCtorEq,A3d,Zh];apply z;clear z K)
 refine sR M0 ?_;refine A0.bb (A0.ii l (X:=List E5) (λj z=>[(0,H0 l),(3,.box 3 0),(5,.acc 5),(6,A7 out.length),(7,A7 j)]) (λj z=>[(3,.cells (noS n)),(5,.rows 3 (Us z))]) (λj z=>(l.drop j).foldl (R0 n) z=l.foldl (R0 n) out/\Vx l z) out ⟨rfl,hO⟩ sS sB ?_ ?_)
 rotate_left
 .intro j z e E a0 dp tk a2 J;obtain⟨J,W⟩:=J;have hj:=(Aw.1 E).1;have a6:=W.len;have I:=W.step n a0;have V:=I.len;rw[dp,Mr]at J;have L:=C7n z e.src (by omega);have O:=C7n z e.dst (by omega);refine sK λZ u2=>?_
  (refine sQ M0 λK z=>?_;simp -implicitDefEqProofs only[EV,Nat.reduceEqDiff,reduceCtorEq,Ix,a2,Pw];apply z;clear z K)
  refine gI u2 ?_;clear u2 Z;refine sK λZ u2=>A0.bb ?_;have skip:R0 n z e=z->∀sl bx,sle sl [(0,H0 l),(3,.box 3 0),(5,.acc 5),(6,A7 out.length),(7,A7 j)]->ble bx [(3,.cells (noS n)),(5,.rows 3 (Us z))]->Z sl bx:=by
   intro hr sl bx s1 s2;rw[hr]at J;refine u2 _ _ (A0.ww s1 s2 ?_);clear u2 Z
   (refine lV M0 λK z=>?_;refine cl ?_;apply z;clear z K;try simp only[A5,])
   exact⟨z,⟨J,W⟩,sS,by simp[ble,A8]⟩
  by_cases h1:e.src=n\/e.src∈z
  .by_cases h2:e.dst∈z
   .rw[Cc h2]at O;have hr:R0 n z e=z:=by unfold R0;rw[A3 (λh=>h.2 h2)]
    by_cases U:e.src=n
    ·(refine sG M0 [] 23 [] λK z=>?_;refine ev ?_;refine⟨by omega,_,Gx E,rfl,?_⟩;(try simp -implicitDefEqProofs only[EV,Nat.reduceAdd,Nat.reduceEqDiff,Nat.reduceLeDiff,reduceCtorEq,Ng,Et,U]);refine⟨_,Yg n n rfl rfl,?_⟩;(try refine ev ?_);refine⟨by omega,_,Gx E,rfl,?_⟩;(try simp -implicitDefEqProofs only[EV,Nat.reduceAdd,Nat.reduceEqDiff,Nat.reduceLeDiff,reduceCtorEq,Et,U]);refine⟨_,.inr ⟨_,rfl,O,rfl⟩,?_⟩;(try refine ev ?_);apply z;clear z K)
     refine A0.ff rfl (A0.kk ?_);exact skip hr _ _ sS sB
    .rw[Cc (h1.resolve_left U)]at L
     (refine sG M0 [] 23 [] λK z=>?_;refine ev ?_;refine⟨by omega,_,Gx E,rfl,?_⟩;(try simp -implicitDefEqProofs only[EV,Nat.reduceAdd,Nat.reduceEqDiff,Nat.reduceLeDiff,reduceCtorEq,Ng,Et]);refine⟨_,Yg e.src n rfl rfl,?_⟩;(try refine Ah U ?_);refine⟨by omega,_,Gx E,rfl,?_⟩;(try simp -implicitDefEqProofs only[EV,Nat.reduceAdd,Nat.reduceEqDiff,Nat.reduceLeDiff,reduceCtorEq,Et]);refine⟨_,.inr ⟨_,rfl,L,rfl⟩,?_⟩;(try refine ev ?_);refine⟨by omega,_,Gx E,rfl,?_⟩;(try simp -implicitDefEqProofs only[EV,Nat.reduceAdd,Nat.reduceEqDiff,Nat.reduceLeDiff,reduceCtorEq,Et]);refine⟨_,.inr ⟨_,rfl,O,rfl⟩,?_⟩;(try refine ev ?_);apply z;clear z K)
     refine A0.ff rfl (A0.kk ?_);exact skip hr _ _ sS sB
   .rw[Cu h2]at O;have hr:R0 n z e=z++[e.dst]:=by unfold R0;rw[A6 ⟨h1,h2⟩]
    rw[hr]at J I V;rw[As]at V;simp only[Ar,Az]at V;by_cases U:e.src=n
    ·(refine sG M0 [] 23 [] λK z=>?_;refine ev ?_;refine⟨by omega,_,Gx E,rfl,?_⟩;(try simp -implicitDefEqProofs only[EV,Nat.reduceAdd,Nat.reduceEqDiff,Nat.reduceLeDiff,reduceCtorEq,Ng,Et,U]);refine⟨_,Yg n n rfl rfl,?_⟩;(try refine ev ?_);refine⟨by omega,_,Gx E,rfl,?_⟩;(try simp -implicitDefEqProofs only[EV,Nat.reduceAdd,Nat.reduceEqDiff,Nat.reduceLeDiff,reduceCtorEq,Et,U]);refine⟨_,.inr ⟨_,rfl,O,rfl⟩,?_⟩;(try refine ev ?_);apply z;clear z K)
     refine A0.tt rfl ?_
     (refine lV M0 λK z=>?_;refine⟨by omega,_,Gx E,rfl,?_⟩;(try simp -implicitDefEqProofs only[EV,Nat.reduceAdd,Nat.reduceEqDiff,Nat.reduceBEq,Nat.reduceLeDiff,Nat.reduceMul,reduceCtorEq,Ng,A3d,Et,Zh]);refine⟨by simp,by(try simp only[Zh]);unfold lim;omega,?_⟩;apply z;clear z K;try simp only[A5,A9])
     refine u2 _ _ ?_;clear skip u2 Z
     (refine lV M0 λK z=>?_;refine cl ?_;apply z;clear z K;try simp only[A5,])
     exact⟨z++[e.dst],⟨J,I⟩,sS,by simp[ble,A8,Us,noC]⟩
    .rw[Cc (h1.resolve_left U)]at L
     (refine sG M0 [] 23 [] λK z=>?_;refine ev ?_;refine⟨by omega,_,Gx E,rfl,?_⟩;(try simp -implicitDefEqProofs only[EV,Nat.reduceAdd,Nat.reduceEqDiff,Nat.reduceLeDiff,reduceCtorEq,Ng,Et]);refine⟨_,Yg e.src n rfl rfl,?_⟩;(try refine Ah U ?_);refine⟨by omega,_,Gx E,rfl,?_⟩;(try simp -implicitDefEqProofs only[EV,Nat.reduceAdd,Nat.reduceEqDiff,Nat.reduceLeDiff,reduceCtorEq,Et]);refine⟨_,.inr ⟨_,rfl,L,rfl⟩,?_⟩;(try refine ev ?_);refine⟨by omega,_,Gx E,rfl,?_⟩;(try simp -implicitDefEqProofs only[EV,Nat.reduceAdd,Nat.reduceEqDiff,Nat.reduceLeDiff,reduceCtorEq,Et]);refine⟨_,.inr ⟨_,rfl,O,rfl⟩,?_⟩;(try refine ev ?_);apply z;clear z K)
     refine A0.tt rfl ?_
     (refine lV M0 λK z=>?_;refine⟨by omega,_,Gx E,rfl,?_⟩;(try simp -implicitDefEqProofs only[EV,Nat.reduceAdd,Nat.reduceEqDiff,Nat.reduceBEq,Nat.reduceLeDiff,Nat.reduceMul,reduceCtorEq,Ng,A3d,Et,Zh]);refine⟨by simp,by(try simp only[Zh]);unfold lim;omega,?_⟩;apply z;clear z K;try simp only[A5,A9])
     refine u2 _ _ ?_;clear skip u2 Z
     (refine lV M0 λK z=>?_;refine cl ?_;apply z;clear z K;try simp only[A5,])
     exact⟨z++[e.dst],⟨J,I⟩,sS,by simp[ble,A8,Us,noC]⟩
  .have hr:R0 n z e=z:=by unfold R0;rw[A3 (λh=>h1 h.1)]
   have U:¬e.src=n:=λh=>h1 (.inl h);rw[Cu (λh=>h1 (.inr h))]at L
   (refine sG M0 [] 23 [] λK z=>?_;refine ev ?_;refine⟨by omega,_,Gx E,rfl,?_⟩;(try simp -implicitDefEqProofs only[EV,Nat.reduceAdd,Nat.reduceEqDiff,Nat.reduceLeDiff,reduceCtorEq,Ng,Et]);refine⟨_,Yg e.src n rfl rfl,?_⟩;(try refine Ah U ?_);refine⟨by omega,_,Gx E,rfl,?_⟩;(try simp -implicitDefEqProofs only[EV,Nat.reduceAdd,Nat.reduceEqDiff,Nat.reduceLeDiff,reduceCtorEq,Et]);refine⟨_,.inr ⟨_,rfl,L,rfl⟩,?_⟩;(try refine ev ?_);apply z;clear z K)
   refine A0.ff rfl (A0.kk ?_);exact skip hr _ _ sS sB
 intro z J;obtain⟨J,W⟩:=J;rw[D3,We]at J;have a3:=D2y n l out;rw[<-J]at hI a3;refine sK λZ u2=>?_
 (refine sQ M0 λK z=>?_;simp -implicitDefEqProofs only[EV,Nat.reduceEqDiff,reduceCtorEq,Ix,B6,Pw];apply z;clear z K)
 refine A0.ss rfl ?_;simp only[A5,A9,Ac];refine⟨(k,(out.length:Int),z),⟨hI,W,?_⟩,by simp only;omega,sS,by simp[ble,A8]⟩;simp only;by_cases h:z.length=out.length
 .exact .inl (by omega)
 .exact .inr (by omega)
def F9m(l:List Bt)(a b:E5)(J:l.length<=1000000000000)(hr:(A3m l a).length<=1000000000000):Ab prog 100 [H0 l,Uu a,Uu b] (B1 (B4o l a b)):=by have E:=G3f l a J;have I:=C7n (A3m l a) b hr;unfold B4o;generalize A3m l a=z at*;refine cB func100 ?_;refine sR [0,1,2,4,5,6] ?_;refine sG [0,1,2,4,5,6] [] 4 [] λK z=>?_;refine ev ?_;refine cc E ?_;refine cc I ?_;apply z;clear z K;exact aR
def D5d(n:E5)(l:List Bt):∀(m:List Bt)(out:List E5),(∀e,e∈m->e∈l)->Vx l out->Vx l (m.foldl (R0 n) out)
 |[],_,_,h=>h
 |e::m,out,E,h=>by rw[Mr];exact D5d n l m _ (λx I=>E x (by simp[I])) (h.step n (E e (by simp)))
def E5z(l:List Bt)(n:E5):∀(k:Nat)(c:Int)(out:List E5),Vx l out->Vx l (A2z l n k c out)
 |0,_,_,h=>h
 |k+1,c,out,h=>by rw[A2z];split;exact h;exact E5z l n k _ _ (D5d n l l out (λ_ h=>h) h)
def F5q(l:List Bt)(n:E5):(A3m l n).length<=l.length:=(E5z l n _ _ _ ⟨by simp,by simp⟩).len
def A1b(l:List Bt)(e:Bt):Bool:=e.ins && (decide (e.dst=e.src) ||B4o l e.dst e.src)
abbrev Qm:List Nat:=[0,2,3,4,8,42]
def F7y(l:List Bt)(W:l.length<=1000000000000):Ab prog 37 [H0 l] (H0 (B9k l)):=by
 refine cB func37 ?_;refine sR Qm ?_;refine sR Qm ?_;refine A0.pp 3 7 3 rfl<|kR Qm λK1 u1=>?_;refine A0.bb (A0.ii l (X:=Unit) (λj _=>[(0,H0 l),(3,.acc 3),(4,A7 j)]) (λj _=>[(3,.rows 7 (Lj ((l.take j).filter (A1b l))))]) (λ_ _=>True) () trivial sS (by simp[ble,A8,Lj]) ?_ ?_)
 rotate_left
 .intro j _ e J V dp tk O _;have Z:=(Aw.1 J).1;have U:=F9m l e.dst e.src W (Dd (F5q l e.dst) W);have e2:Lj ((l.take (j+1)).filter (A1b l))=Lj ((l.take j).filter (A1b l))++(if A1b l e=true then[Et e]else[]):=by rw[La Z,(Aw.1 J).2,Aq0];simp only[Lj,Hc,Ar2,Ar7];split <;> simp
  have e3:(Lj ((l.take j).filter (A1b l))).length<=j:=by rw[Pw];exact Dd (Ao4 _ _) (by rw[D0];omega)
  rw[e2];generalize Lj ((l.take j).filter (A1b l))=PR at*;unfold A1b;generalize B4o l e.dst e.src=lb at*;refine sK λL u2=>?_
  (refine sQ Qm λK z=>?_;simp -implicitDefEqProofs only[EV,Nat.reduceEqDiff,reduceCtorEq,Ix,O,Pw];apply z;clear z K)
  refine gI u2 ?_;clear u2 L;refine sK λL u2=>A0.bb ?_;cases I:e.ins with
  |false =>
   simp only[C8,I5,Fm,Gy];refine sG Qm [] 29 [] λK z=>?_;refine ev ?_;refine⟨by omega,_,Gx J,rfl,?_⟩;(try simp -implicitDefEqProofs only[EV,Nat.reduceEqDiff,reduceCtorEq,Et,I]);apply z;clear z K;refine A0.ff rfl (A0.kk (u2 _ _ ?_));clear u2 L;(refine lV Qm λK z=>?_;refine cl ?_;apply z;clear z K;try simp only[A5,]);exact⟨(),trivial,sS,by simp[ble,A8,I]⟩
  |true =>
   by_cases E:e.dst=e.src;simp only[Cr,Cc E,Vn,Ac];refine sG Qm [] 29 [] λK z=>?_;refine ev ?_;refine⟨by omega,_,Gx J,rfl,?_⟩;(try simp -implicitDefEqProofs only[EV,Nat.reduceAdd,Nat.reduceEqDiff,reduceCtorEq,Ix,Ng,N1,Et,I,E]);refine⟨by omega,_,Gx J,rfl,?_⟩;(try simp -implicitDefEqProofs only[EV,Nat.reduceAdd,Nat.reduceEqDiff,Nat.reduceLeDiff,reduceCtorEq,Ix,Ng,N1,Et,I,E]);refine⟨by omega,_,Gx J,rfl,?_⟩;(try simp -implicitDefEqProofs only[EV,Nat.reduceAdd,Nat.reduceEqDiff,Nat.reduceLeDiff,reduceCtorEq,Et,I,E]);refine⟨_,Yg e.src e.src rfl rfl,?_⟩;(try refine ev ?_);apply z;clear z K;refine A0.tt rfl ?_;(refine lV Qm λK z=>?_;refine⟨by omega,_,Gx J,rfl,?_⟩;(try simp -implicitDefEqProofs only[EV,Nat.reduceAdd,Nat.reduceEqDiff,Nat.reduceBEq,Nat.reduceLeDiff,Nat.reduceMul,reduceCtorEq,Ix,N1,Et]);refine⟨by simp,by unfold lim;omega,?_⟩;apply z;clear z K;try simp only[A5,A9]);refine u2 _ _ ?_;clear u2 L;(refine lV Qm λK z=>?_;refine cl ?_;apply z;clear z K;try simp only[A5,]);exact⟨(),trivial,sS,by simp[ble,A8,I,E,Et]⟩
   .cases lb with
    |true =>
     simp only[Cr,Bool.or_true,Ac];refine sG Qm [] 29 [] λK z=>?_;refine ev ?_;refine⟨by omega,_,Gx J,rfl,?_⟩;(try simp -implicitDefEqProofs only[EV,Nat.reduceAdd,Nat.reduceEqDiff,reduceCtorEq,Ix,Ng,N1,Et,I]);refine⟨by omega,_,Gx J,rfl,?_⟩;(try simp -implicitDefEqProofs only[EV,Nat.reduceAdd,Nat.reduceEqDiff,Nat.reduceLeDiff,reduceCtorEq,Ix,Ng,N1,Et,I]);refine⟨by omega,_,Gx J,rfl,?_⟩;(try simp -implicitDefEqProofs only[EV,Nat.reduceAdd,Nat.reduceEqDiff,Nat.reduceLeDiff,reduceCtorEq,Et,I]);refine⟨_,Yg e.dst e.src rfl rfl,?_⟩;(try refine Ah E ?_);refine⟨by omega,_,Gx J,rfl,?_⟩;(try simp -implicitDefEqProofs only[EV,Nat.reduceAdd,Nat.reduceEqDiff,Nat.reduceLeDiff,reduceCtorEq,Ix,Ng,N1,Et,I]);refine⟨by omega,_,Gx J,rfl,?_⟩;(try simp -implicitDefEqProofs only[EV,Nat.reduceAdd,Nat.reduceEqDiff,Nat.reduceLeDiff,reduceCtorEq,Et,I]);refine cc U ?_;apply z;clear z K;refine A0.tt rfl ?_;(refine lV Qm λK z=>?_;refine⟨by omega,_,Gx J,rfl,?_⟩;(try simp -implicitDefEqProofs only[EV,Nat.reduceAdd,Nat.reduceEqDiff,Nat.reduceBEq,Nat.reduceLeDiff,Nat.reduceMul,reduceCtorEq,Ix,N1,Et]);refine⟨by simp,by unfold lim;omega,?_⟩;apply z;clear z K;try simp only[A5,A9]);refine u2 _ _ ?_;clear u2 L;(refine lV Qm λK z=>?_;refine cl ?_;apply z;clear z K;try simp only[A5,]);exact⟨(),trivial,sS,by simp[ble,A8,I,E,Et]⟩
    |false =>
     simp only[Cr,Cu E,Ar4,I5,Fm,Gy];refine sG Qm [] 29 [] λK z=>?_;refine ev ?_;refine⟨by omega,_,Gx J,rfl,?_⟩;(try simp -implicitDefEqProofs only[EV,Nat.reduceAdd,Nat.reduceEqDiff,reduceCtorEq,Ix,Ng,N1,Et,I]);refine⟨by omega,_,Gx J,rfl,?_⟩;(try simp -implicitDefEqProofs only[EV,Nat.reduceAdd,Nat.reduceEqDiff,Nat.reduceLeDiff,reduceCtorEq,Ix,Ng,N1,Et,I]);refine⟨by omega,_,Gx J,rfl,?_⟩;(try simp -implicitDefEqProofs only[EV,Nat.reduceAdd,Nat.reduceEqDiff,Nat.reduceLeDiff,reduceCtorEq,Et,I]);refine⟨_,Yg e.dst e.src rfl rfl,?_⟩;(try refine Ah E ?_);refine⟨by omega,_,Gx J,rfl,?_⟩;(try simp -implicitDefEqProofs only[EV,Nat.reduceAdd,Nat.reduceEqDiff,Nat.reduceLeDiff,reduceCtorEq,Ix,Ng,N1,Et,I]);refine⟨by omega,_,Gx J,rfl,?_⟩;(try simp -implicitDefEqProofs only[EV,Nat.reduceAdd,Nat.reduceEqDiff,Nat.reduceLeDiff,reduceCtorEq,Et,I]);refine cc U ?_;apply z;clear z K;refine A0.ff rfl (A0.kk (u2 _ _ ?_));clear u2 L;(refine lV Qm λK z=>?_;refine cl ?_;apply z;clear z K;try simp only[A5,]);exact⟨(),trivial,sS,by simp[ble,A8,I,E]⟩
 intro _ _;rw[Cx];refine sK λL u2=>?_;refine sQ Qm λK z=>?_;simp -implicitDefEqProofs only[EV,Nat.reduceEqDiff,reduceCtorEq,Ix,B6,Pw];apply z;clear z K;refine A0.ss rfl ?_;simp only[A5,A9,Ac];refine u1 _ _ ?_;clear u2 L u1 K1;refine sR Qm ?_;rw[show B9k l=l.filter (A1b l) from rfl];exact aR
def E7v(p:Prog)(h:p.Sm)(I:∀d,d∈p.decls->(Cj d.body).length<=sm)(O:Pj p.decls<=72000):Ab prog 16 [Cq p] (B1 (B8c p)):=by
 have V:=F8o p h I O;have J:(A5b p).length<=1000000000000:=by have:=B0i (g:=Decl.al) D6t p.decls [];have L:Pj p.decls*Pj p.decls<=72000*72000:=Nat.mul_le_mul O O;unfold Pj at*;unfold A5b;simp only[Az]at this;omega
 have L:=F7y (A5b p) J;unfold B8c;generalize A5b p=l at*;generalize B9k l=x at*;by_cases U:x.length=0
 .have E:((x.length:Nat):Int)=0:=by omega
  rw[Cc U];refine cB func16 ?_;refine sR [0,1,2] ?_;refine sV [0,1,2] λK z=>?_;refine cc V ?_;refine⟨_,.inl ⟨_,rfl,L,rfl⟩,?_⟩;(try simp -implicitDefEqProofs only[EV,Nat.reduceEqDiff,reduceCtorEq,E,Pw,Ix]);apply z;clear z K;exact aR
 .have E:¬((x.length:Nat):Int)=0:=by omega
  rw[Cu U];refine cB func16 ?_;refine sR [0,1,2] ?_;refine sV [0,1,2] λK z=>?_;refine cc V ?_;refine⟨_,.inl ⟨_,rfl,L,rfl⟩,?_⟩;(try simp -implicitDefEqProofs only[EV,Nat.reduceEqDiff,reduceCtorEq,E,Pw,Ix]);apply z;clear z K;exact aR
open Go Go.Proofs Go.Sort Tryz
def Ig(l:List Param):List Param:=l.map λf=>⟨f.name,Pm f.type,0⟩
def headD(k:Int)(nm:A2)(fs:List Param)(ss:List A4):Decl:=⟨k,nm,[],fs,ss,[],[],Jc,V5,0⟩
def Kq(nm:A2)(s:A4):Decl:=⟨3,nm,[],[],[],[114],[],Ho s,.mk 3 [] A6j [] [] 0,0⟩
def C0u(M:B8->Option Decl)(p:Prog)(calls:List B8)(x:Ty):List Decl:=if Bb p x 1=true then headD 1 x.mg (Ig (Bo p x)) []::(calls.filterMap M++(Cd p [] x).map (Kq x.mg))else[]
abbrev deH(nm:A2)(x:SV):List SV:=[.d (.int .i64 1),.d (.str nm),.d .nil,x,.d .nil,.d (.str []),.d .nil,.d (.str []),.d .nil,.d .nil,.d (.str []),.d .nil,.d (.int .i64 0),.d (.int .i64 0),.d (.int .i64 0),.d (.str []),.d (.str []),.d .nil,.d (.int .i64 0),.d .nil,.d .nil,.d (.int .i64 0),.d (.int .i64 0)]
def G4a{l:List Param}{j:Nat}{d:Param}(h:l[j]?=some d):Ay (Ig (l.take (j+1)))=Ay (Ig (l.take j))++[E9 ⟨d.name,Pm d.type,0⟩]:=by have E:=(Aw.1 h).1;rw[La E,(Aw.1 h).2];simp[Ig,Ay]
def F1o{p:Prog}(ht:∀d,d∈p.decls->d.Tl)(hr:p.right=true)(hs:p.Sm){x:Ty}(U:∀u,u∈x.args->u.Ni 12000):∀f,f∈Bo p x->f.type.Ni 360000000:=by intro f I;unfold Bo at I;split at I;rename_i V;obtain⟨d,hd,_⟩:=N4 (by decide) V;rw[hd,Dh]at I;unfold fieldsD at I;obtain⟨y,L,rfl⟩:=Au.1 I;have E:=Qb hd;simp only[Prog.right,Bi,Dr]at hr;have h:=hr.1 d E;simp only[Decl.right,Nd,Bi,Dr]at h;have J:=h.2.2.1 y L;have O:y.type.Ni 120000:=⟨Ty.A4d ((hs.decls.2 d E).fields.2 y L).type J.2,(ht d E).fields y L⟩;exact Ty.Ni.subst (B:=120000) (M:=12000) (by decide) U O;simp at I
open Go Go.Proofs Tryz
abbrev mnS(e:Ex):List SV:=[.d (.int .i64 e.kind),.d (.str e.name),.d (.str e.type.name),.d (.slice (Ag e.type.args)),.d (.int .i64 e.type.pos),.d (.slice (Ag e.targs)),.d (.slice (Bj e.kids)),.d (.int .i64 e.pos)]
def Na:Decl:=headD 1 A5k [] []
def B6h(p:Prog):Bool:=decide (p.count<=600) && (p.right && (!(A5v p true).bad && B8c p))
abbrev Rj:List Nat:=[0,1,2,18]
def G3g(p:Prog):Ab prog 5 [Cq p] (A7 (if B6h p=true then 1 else 0)):=by
 have I:=F6q p;unfold B6h;by_cases J:p.count<=600;rotate_left
 .rw[Cu J]at I |-;rw[C8,A3 (by simp)];refine cB func5 ?_;refine sR Rj ?_;refine kC I Rj λL u1=>?_;refine kI u1 ?_;refine sR Rj ?_;exact aR
 rw[Cc J]at I |-;rw[Cr];have E:=Prog.A5g p J;have U:=Prog.Y3 p J;have hr:=G6f p E.sm (Prog.Pf p J);have O:=H0r p E true;have V:=E7v p E.sm (λd hd=>by have:=(U.decls d hd).body.list;unfold sm;omega) (Prog.A9f p J);generalize p.right=b1 at*;generalize B8c p=b3 at*;generalize A5v p true=r at*;obtain⟨q,W,lg⟩:=r;cases b1 with
 |false =>
  rw[C8,A3 (by simp)];refine cB func5 ?_;refine sR Rj<|sK λL u1=>?_
  refine sV Rj λK z=>?_;refine cc I ?_;refine cc hr ?_;apply z;clear z K;refine kI u1 ?_;refine sR Rj ?_;exact aR
 |true =>
 cases W with
 |true =>
  rw[show(true && (!(F6.mk q true lg).bad && b3))=false from rfl,A3 (by simp)];refine cB func5 ?_;refine sR Rj<|sK λL u1=>?_
  refine sV Rj λK z=>?_;refine cc I ?_;refine cc hr ?_;refine cc O ?_;apply z;clear z K;refine kI u1 ?_;refine sR Rj ?_;exact aR
 |false =>
 rw[show(true && (!(F6.mk q false lg).bad && b3))=b3 from rfl];cases b3 with
 |false =>
  rw[A3 (by simp)];refine cB func5 ?_;refine sR Rj<|sK λL u1=>?_
  refine sV Rj λK z=>?_;refine cc I ?_;refine cc hr ?_;refine cc O ?_;refine cc V ?_;apply z;clear z K;refine kI u1 ?_;refine sR Rj ?_;exact aR
 |true =>
  rw[A6 rfl];refine cB func5 ?_;refine sR Rj<|sK λL u1=>?_
  refine sV Rj λK z=>?_;refine cc I ?_;refine cc hr ?_;refine cc O ?_;refine cc V ?_;apply z;clear z K;refine tI ?_;refine sR Rj ?_;exact aR
def C2g(t:Ty):(Pm t).Lm:=.mk _ _ _ (by simp) (by simp)
def E0f{l:List A4}{c:B8}{s:A4}(L:∀x,x∈l->x.params.length<=2000)(h:A7o l c=some s):s.Lm:=by unfold A7o at h;split at h;cases h;rename_i O;obtain⟨y,J,E⟩:=C6y O;rw[J,Dh]at h;split at h;cases h;refine⟨⟨by simp[Dy],by simp[Dy]⟩,⟨by have:=L y E;simp only[Dy,A4j,Bc];unfold sm;omega,λf I=>?_⟩,C2g _⟩;unfold Dy Hf at I;obtain⟨i,x,_,_,rfl⟩:=mem_mapIdx I;exact C2g _;cases h
end Go.Abs
