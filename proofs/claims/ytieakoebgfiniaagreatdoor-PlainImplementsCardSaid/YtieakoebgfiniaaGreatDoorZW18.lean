/- castingsref18: sig, Decl, Edges; castingsref19: has, Reach, Leads, Expansive, Is -/
import Derived.Test.YtieakoebgfiniaaGreatDoorZW13
import Derived.Test.YtieakoebgfiniaaGreatDoorZW14
import Derived.Test.YtieakoebgfiniaaGreatDoorZU06
set_option linter.all false
set_option maxHeartbeats 4000000
set_option maxRecDepth 100000
namespace Go.Abs
open Go Go.Proofs Tryz
abbrev E7d(s:A3):List SV:=[.d (.str s.name),.d (.slice (Ag s.A1)),.d (.slice (Av s.params)),.d (.str s.result.name),.d (.slice (Ax s.result.args)),.d (.int .i64 s.result.pos),.d (.int .i64 s.pos)]
abbrev Uc:List Nat:=[0,1,2,5,6,7,8,13,37]
def C5c(s:List H4)(hs:s.length<=10*sm)(l:List Bn)(x:A3)(hf:x.A1.length<=sm)(hp:x.params.length<=sm)(hl:l.length+x.al*x.al<=1000000000000):Aa prog 200 [Gv l,Qq s,Cy x] (Gv (Ta s l x)):=by
 have U:∃R1,x.A1.foldl (λl f=>Gg s false f.bound.name 0 l f.bound.args) l=R1:=⟨_,rfl⟩;obtain⟨R1,U⟩:=U;have O:∃R2,x.params.foldl (λl p=>Gg s false p.type.name 0 l p.type.args) R1=R2:=⟨_,rfl⟩;obtain⟨R2,O⟩:=O;have e0:Ta s l x=Gg s false x.result.name 0 R2 x.result.args:=by unfold Ta;rw[U,O]
 rw[e0];unfold A3.al at hl;obtain⟨B,hB⟩:∃B,B=No x.params+Ty.C0 x.result.args:=⟨_,rfl⟩;obtain⟨C,hC⟩:∃C,C=Ty.C0 x.result.args:=⟨_,rfl⟩;refine cB func200 ?_;refine sR Uc ?_;refine kR Uc λK1 u1=>?_;refine A0.bb (A0.ii x.A1 (X:=List Bn) (λj z=>[(0,Gv z),(1,Qq s),(5,.box 5 0),(7,A5 j)]) (λj z=>[(5,.cells (E7d x))])
  (λj z=>(x.A1.drop j).foldl (λl f=>Gg s false f.bound.name 0 l f.bound.args) z=R1/\z.length+(T4 (x.A1.drop j)+B)*(T4 (x.A1.drop j)+B)<=1000000000000) l
  ⟨U,by rw[Aq4,hB];rw[Si]at hl;exact hl⟩ sS sB ?_ ?_)
 rotate_left
 .intro j z d hd Z dp tk V E;obtain⟨E,I⟩:=E;have hj:=(Az.1 hd).1;rw[dp,Lo]at E;have e1:T4 (x.A1.drop j)+B=Ty.C0 d.bound.args+(T4 (x.A1.drop (j+1))+B):=by rw[dp];simp only[T4,Ck,J5];omega
  rw[e1]at I;have L:=Ye s d.bound.args false d.bound.name 0 z;have h1:=A6k I L;have h2:=Tm (Ty.C0 d.bound.args) (T4 (x.A1.drop (j+1))+B);have W:=B4y s hs false d.bound.name d.bound.args z (by omega);generalize Gg s false d.bound.name 0 z d.bound.args=z2 at*;refine Ai V Uc λJ u2=>?_;refine gI u2 ?_;clear u2 J;refine sK λJ u2=>A0.bb ?_
  (refine lG Uc [] 16 [] λK z=>?_;refine ev ?_;refine ci (F4 hd) ?_;refine ci (F4 hd) ?_;refine cc W ?_;apply z;clear z K;try simp only[A4,Ac])
  refine u2 _ _ ?_;clear u2 J;refine lT Uc ?_;exact⟨z2,⟨E,h1⟩,sS,by simp[ble,A7]⟩
 intro z E;obtain⟨E,I⟩:=E;rw[Db]at E I;rw[Vs]at E;subst E;have a0:z.length+(No x.params+C)*(No x.params+C)<=1000000000000:=by
  have:T4 []+B=No x.params+C:=by rw[hB,hC];simp[T4]
  rw[this]at I;exact I
 refine Ai B3 Uc λJ u2=>?_;refine A0.ss rfl ?_;simp only[A4,Ac,Af];refine u1 _ _ ?_;clear u2 J u1 K1;refine kR Uc λK1 u1=>?_;refine A0.bb (A0.ii x.params (X:=List Bn) (λj z=>[(0,Gv z),(1,Qq s),(5,.box 5 0),(8,A5 j)]) (λj z=>[(5,.cells (E7d x))])
  (λj z=>(x.params.drop j).foldl (λl p=>Gg s false p.type.name 0 l p.type.args) z=R2/\z.length+(No (x.params.drop j)+C)*(No (x.params.drop j)+C)<=1000000000000) z
  ⟨O,by rw[Aq4];exact a0⟩ sS sB ?_ ?_)
 rotate_left
 .intro j z d hd Z dp tk V E;obtain⟨E,I⟩:=E;have hj:=(Az.1 hd).1;rw[dp,Lo]at E;have e1:No (x.params.drop j)+C=Ty.C0 d.type.args+(No (x.params.drop (j+1))+C):=by rw[dp];simp only[No,Ck,J5];omega
  rw[e1]at I;have L:=Ye s d.type.args false d.type.name 0 z;have h1:=A6k I L;have h2:=Tm (Ty.C0 d.type.args) (No (x.params.drop (j+1))+C);have W:=B4y s hs false d.type.name d.type.args z (by omega);generalize Gg s false d.type.name 0 z d.type.args=z2 at*;refine Ai V Uc λJ u2=>?_;refine gI u2 ?_;clear u2 J;refine sK λJ u2=>A0.bb ?_
  (refine lG Uc [] 16 [] λK z=>?_;refine ev ?_;refine ci (Du hd) ?_;refine ci (Du hd) ?_;refine cc W ?_;apply z;clear z K;try simp only[A4,Ac])
  refine u2 _ _ ?_;clear u2 J;refine lT Uc ?_;exact⟨z2,⟨E,h1⟩,sS,by simp[ble,A7]⟩
 intro z E;obtain⟨E,I⟩:=E;rw[Db]at E I;rw[Vs]at E;subst E;have a1:z.length+Ty.C0 x.result.args*Ty.C0 x.result.args<=1000000000000:=by
  have:No []+C=Ty.C0 x.result.args:=by rw[hC];simp[No]
  rw[this]at I;exact I
 have W:=B4y s hs false x.result.name x.result.args z a1;generalize Gg s false x.result.name 0 z x.result.args=z2 at*;refine Ai B3 Uc λJ u2=>?_;refine A0.ss rfl ?_;simp only[A4,Ac,Af];refine u1 _ _ ?_;clear u2 J u1 K1;refine sC W Uc ?_;exact aR
abbrev Ku:List Nat:=[0,1,3,4,5,6,7,8,9,12,37,87]
def H5o(l:List Bn)(d:Decl)(hd:d.Sm)(a4:(B8 d.body).length<=sm)(hl:l.length+d.al*d.al<=1000000000000):Aa prog 136 [Gv l,Ia d] (Gv (A4z l d)):=by
 have aa:=hd.vars.1;have a2:=hd.A1.1;have ad:=hd.sigs.1;have a3:=hd.sig.A1.1;rw[D1z];unfold Decl.al at hl;by_cases hk:d.kind=3
 .rw[A8 hk]at hl |-;have a7:=C0a [] false d.name d.vars (by simp) aa;have hn:=R3 d.sig.A1 a3;rw[show d.sig.A1.map (·.name)=Ad d.sig.A1 from rfl]at hn;have O:=B7i [] false d.name d.vars;have U:(Ad d.sig.A1).length<=sm:=by simpa [Ad]using a3
  generalize L2 [] false d.name d.vars=s1 at*;simp only[Ca,Ky]at O;have a5:=C0a s1 true d.sig.name (Ad d.sig.A1) (by unfold sm at*;omega) U;have a1:=B7i s1 true d.sig.name (Ad d.sig.A1);generalize L2 s1 true d.sig.name (Ad d.sig.A1)=s at*;have hs:s.length<=10*sm:=by unfold sm at*;omega
  have ab:=Tm d.sig.al (T9 (B8 d.body));have hg:=C5c s hs l d.sig a3 hd.sig.params.1 (by omega);have J:=A8f s l d.sig;have a':=D9m d.body a4;have Z:=A6k hl J;generalize Ta s l d.sig=z0 at*;have W:∃R,(B8 d.body).foldl (exE s) z0=R:=⟨_,rfl⟩;obtain⟨R,W⟩:=W;rw[W];generalize B8 d.body=es at*;refine cB func136 ?_;refine sR Ku ?_;refine Ai hk Ku λK1 u1=>?_;refine A0.tt rfl ?_
  (refine sG Ku [] 12 [] λK z=>?_;refine ev ?_;refine cc a7 ?_;refine cc hn ?_;refine cc a5 ?_;apply z;clear z K)
  refine sC hg Ku ?_;refine sC a' Ku ?_;refine kR Ku λK2 u2=>?_;refine A0.bb (A0.ii es (X:=List Bn) (λj z=>[(0,Gv z),(5,Qq s),(6,.d (.slice (Eb es))),(7,A5 j)]) (λj z=>[])
   (λj z=>(es.drop j).foldl (exE s) z=R/\z.length+T9 (es.drop j)*T9 (es.drop j)<=1000000000000) z0 ⟨W,Z⟩ sS (by simp[ble]) ?_ ?_)
  rotate_left
  .intro j z e he a0 dp tk a6 E;obtain⟨E,Z⟩:=E;have hj:=(Az.1 he).1;rw[dp,Lo]at E;have e1:T9 (es.drop j)=A0k e+T9 (es.drop (j+1)):=by rw[dp];simp only[T9,Ck,J5]
   rw[e1]at Z;have h1:=A6k Z (D3h s z e);have h2:=Tm (A0k e) (T9 (es.drop (j+1)));have h3:=Tm (Ty.C0 e.type.args) (Ty.C0 e.targs);have h4:=Ye s e.type.args false e.type.name 0 z;have a9:=B4y s hs false e.type.name e.type.args z (by unfold A0k at*;omega);unfold exE at E h1;unfold A0k at*;generalize Gg s false e.type.name 0 z e.type.args=z1 at*;have ac:=B4y s hs true e.name e.targs z1 (by omega);generalize Gg s true e.name 0 z1 e.targs=z2 at*;refine Ai a6 Ku λL I=>?_;refine gI I ?_;clear I L;refine sK λL I=>A0.bb ?_
   (refine sG Ku [] 14 [] λK z=>?_;refine ev ?_;refine ci (G8 he) ?_;refine ci (G8 he) ?_;refine cc a9 ?_;apply z;clear z K)
   (refine lG Ku [] 12 [] λK z=>?_;refine ev ?_;refine ci (G8 he) ?_;refine ci (G8 he) ?_;refine cc ac ?_;apply z;clear z K;try simp only[A4,Ac])
   refine I _ _ ?_;clear I L;refine lT Ku ?_;exact⟨z2,⟨E,h1⟩,sS,by simp[ble]⟩
  intro z E;obtain⟨E,_⟩:=E;rw[Db,Vs]at E;subst E;refine Ai B3 Ku λL I=>?_;refine A0.ss rfl ?_;simp only[A4,Ac,Af];refine u2 _ _ ?_;clear I L u2 K2;refine sR Ku ?_;exact aR
 .rw[A6 hk]at hl |-;have hn:=R3 d.A1 a2;rw[show d.A1.map (·.name)=Ad d.A1 from rfl]at hn;have U:(Ad d.A1).length<=sm:=by simpa [Ad]using a2
  have a7:=C0a [] false d.name (Ad d.A1) (by simp) U;have O:=B7i [] false d.name (Ad d.A1);simp only[Ca,Ky]at O;generalize L2 [] false d.name (Ad d.A1)=s at*;have hs:s.length<=10*sm:=by unfold sm at*;omega
  have a8:=D3q d;have ab:=Tm (T4 d.A1+No d.fields) (Z4 d.sigs);have hg:=C5c s hs l (A2t d) a2 hd.fields.1 (by rw[a8];omega);have J:=A8f s l (A2t d);rw[a8]at J;have Z:=A6k hl J;generalize Ta s l (A2t d)=z0 at*;unfold A2t at hg;have W:∃R,d.sigs.foldl (sgE s) z0=R:=⟨_,rfl⟩;obtain⟨R,W⟩:=W;rw[W];refine cB func136 ?_;refine sR Ku ?_;refine Ai hk Ku λK1 u1=>?_;refine A0.ff rfl (A0.kk (u1 _ _ ?_));clear u1 K1
  (refine sG Ku [] 5 [] λK z=>?_;refine ev ?_;refine cc hn ?_;refine cc a7 ?_;apply z;clear z K)
  refine sC hg Ku ?_;refine kR Ku λK2 u2=>?_;refine A0.bb (A0.ii d.sigs (X:=List Bn) (λj z=>[(0,Gv z),(3,.box 3 0),(8,Qq s),(9,A5 j)]) (λj z=>[(3,.cells (deS d))])
   (λj z=>(d.sigs.drop j).foldl (sgE s) z=R/\z.length+Z4 (d.sigs.drop j)*Z4 (d.sigs.drop j)<=1000000000000) z0 ⟨W,Z⟩ sS sB ?_ ?_)
  rotate_left
  .intro j z x hx a0 dp tk a6 E;obtain⟨E,Z⟩:=E;have hj:=(Az.1 hx).1;rw[dp,Lo]at E;have e1:Z4 (d.sigs.drop j)=x.al+Z4 (d.sigs.drop (j+1)):=by rw[dp];simp only[Z4,Ck,J5]
   rw[e1]at Z;have V:=hd.sigs.2 x a0;have hn:=R3 x.A1 V.A1.1;rw[show x.A1.map (·.name)=Ad x.A1 from rfl]at hn;have U:(Ad x.A1).length<=sm:=by simpa [Ad]using V.A1.1
   have a5:=C0a s true x.name (Ad x.A1) hs U;have a1:=B7i s true x.name (Ad x.A1);unfold sgE at E;have h1:=A6k Z (A8f (L2 s true x.name (Ad x.A1)) z x);have h2:=Tm x.al (Z4 (d.sigs.drop (j+1)));have hc:=C5c (L2 s true x.name (Ad x.A1)) (by rw[a1];unfold sm at*;omega) z x V.A1.1 V.params.1 (by omega);generalize L2 s true x.name (Ad x.A1)=s2 at*;generalize Ta s2 z x=z2 at*;refine Ai a6 Ku λL I=>?_;refine gI I ?_;clear I L;refine sK λL I=>A0.bb ?_
   (refine lG Ku [] 21 [] λK z=>?_;refine ev ?_;refine ci (D1 hx) ?_;refine ci (D1 hx) ?_;refine cc hn ?_;refine cc a5 ?_;refine ci (D1 hx) ?_;refine cc hc ?_;apply z;clear z K;try simp only[A4,Ac])
   refine I _ _ ?_;clear I L;refine lT Ku ?_;exact⟨z2,⟨E,h1⟩,sS,by simp[ble,A7]⟩
  intro z E;obtain⟨E,_⟩:=E;rw[Db,Vs]at E;subst E;refine Ai B3 Ku λL I=>?_;refine A0.ss rfl ?_;simp only[A4,Ac,Af];refine u2 _ _ ?_;clear I L u2 K2;refine sR Ku ?_;exact aR
abbrev A3k:List Nat:=[0,1,2,3,4,9]
def G2o(p:Prog)(h:p.Sm)(J:∀d,d∈p.decls->(B8 d.body).length<=sm)(hl:P2 p.decls<=72000):Aa prog 55 [Ct p] (Gv (A6j p)):=by
 have a0:=h.decls.1;have O:∃R,p.decls.foldl A4z []=R:=⟨_,rfl⟩;obtain⟨R,O⟩:=O;unfold A6j;rw[O];have V:([]:List Bn).length+P2 p.decls*P2 p.decls<=1000000000000:=by have:P2 p.decls*P2 p.decls<=72000*72000:=Nat.mul_le_mul hl hl;simp only[Ca];omega
 refine cB func55 ?_;refine sR A3k ?_;refine sR A3k ?_;refine kR A3k λK1 u1=>?_;refine A0.bb (A0.ii p.decls (X:=List Bn) (λj z=>[(1,.box 1 0),(3,Gv z),(4,A5 j)]) (λj z=>[(1,.cells ((Aj p).map .d))])
  (λj z=>(p.decls.drop j).foldl A4z z=R/\z.length+P2 (p.decls.drop j)*P2 (p.decls.drop j)<=1000000000000) [] ⟨O,V⟩ (by simp[sle,Ay,Ae,L0]) (by simp[ble,A7,Aj]) ?_ ?_)
 rotate_left
 .intro j z d hd I W tk U E;obtain⟨E,Z⟩:=E;have hj:=(Az.1 hd).1;rw[W,Lo]at E;have e1:P2 (p.decls.drop j)=d.al+P2 (p.decls.drop (j+1)):=by rw[W];simp only[P2,Ck,J5]
  rw[e1]at Z;have h1:=A6k Z (D9h z d);have h2:=Tm d.al (P2 (p.decls.drop (j+1)));have hc:=H5o z d (h.decls.2 d I) (J d I) (by omega);generalize A4z z d=z2 at*;refine Ai U A3k λL u2=>?_;refine gI u2 ?_;clear u2 L;refine sK λL u2=>A0.bb ?_
  (refine lV A3k λK z=>?_;refine ci (Dx hd) ?_;refine cc hc ?_;apply z;clear z K;try simp only[A4,Ac])
  refine u2 _ _ ?_;clear u2 L;refine lT A3k ?_;exact⟨z2,⟨E,h1⟩,sS,by simp[ble,A7,Aj]⟩
 intro z E;obtain⟨E,_⟩:=E;rw[Db,Vs]at E;subst E;refine Ai B3 A3k λL u2=>?_;refine A0.ss rfl ?_;simp only[A4,Ac,Af];refine u1 _ _ ?_;clear u2 L u1 K1;refine sR A3k ?_;exact aR
abbrev Z6:List Nat:=[0,1,3,4,5,9,17]
def C2t(l:List E3)(n:E3)(W:l.length<=1000000000000):Aa prog 197 [.d (.slice (U3 l)),U9 n] (Aw (decide (n∈l))):=by
 refine cB func197 ?_;refine sR Z6 ?_;refine kR Z6 λZ u1=>?_;refine A0.bb (A0.ii l (X:=Unit) (λj _=>[(0,.d (.slice (U3 l))),(3,.box 3 0),(5,A5 j)]) (λj _=>[(3,.cells (noS n))])
  (λj _=>decide (n∈l)=decide (n∈l.drop j)) () rfl sS sB ?_ ?_)
 rotate_left
 .intro j _ d hd I U tk L E;have V:=(Az.1 hd).1;rw[U]at E;refine sK λJ u2=>?_
  (refine sQ Z6 λK z=>?_;simp -implicitDefEqProofs only[EV,Nat.reduceEqDiff,reduceCtorEq,A2j,L,Yq];apply z;clear z K)
  refine gI u2 ?_;clear u2 J;refine sK λJ u2=>A0.bb ?_;by_cases O:d=n
  .subst O;rw[Bj I]
   (refine sG Z6 [] 5 [] λK z=>?_;refine ev ?_;refine⟨by omega,_,E6a hd,rfl,?_⟩;(try simp -implicitDefEqProofs only[EV,Nat.reduceAdd,Nat.reduceEqDiff,reduceCtorEq,Mf,noC]);refine⟨_,Y8 d d rfl rfl,?_⟩;(try refine ev ?_);apply z;clear z K)
   refine A0.tt rfl<|sR Z6 ?_;exact aR
  ·(refine sG Z6 [] 5 [] λK z=>?_;refine ev ?_;refine⟨by omega,_,E6a hd,rfl,?_⟩;(try simp -implicitDefEqProofs only[EV,Nat.reduceAdd,Nat.reduceEqDiff,reduceCtorEq,Mf,noC]);refine⟨_,Y8 d n rfl rfl,?_⟩;(try refine Ap O ?_);apply z;clear z K)
   refine A0.ff rfl (A0.kk (u2 _ _ ?_));clear u2 J
   (refine lV Z6 λK z=>?_;refine cl ?_;apply z;clear z K;try simp only[A4,])
   exact⟨(),by rw[E];simp[Xn O],sS,by simp[ble,A7]⟩
 intro _ E;rw[Db]at E;rw[E,show decide (n∈([]:List E3))=false by simp]at u1;refine sK λJ u2=>?_
 (refine sQ Z6 λK z=>?_;simp -implicitDefEqProofs only[EV,Nat.reduceEqDiff,reduceCtorEq,A2j,B3,Yq];apply z;clear z K)
 refine A0.ss rfl ?_;simp only[A4,Ac,Af];refine u1 _ _<|sR Z6 ?_;exact aR
def D6w{α:Type}[DecidableEq α]:∀{out m:List α},out.Nodup->(∀x,x∈out->x∈m)->out.length<=m.length
 |[],_,_,_=>by simp
 |x::xs,m,h,hs=>by rw[Ao3]at h;have E:=hs x (by simp);have J:=D6w (m:=m.erase x) h.2 λy I=>(List.mem_erase_of_ne (by rintro rfl;exact h.1 I)).2 (hs y (by simp[I]));rw[List.length_erase_of_mem E]at J;have:=List.length_pos_of_mem E;rw[Bg];omega
structure Vj(l:List Bn)(out:List E3):Prop where
 nd:out.Nodup
 sub:∀x,x∈out->x∈l.map (·.dst)
def Vj.len{l:List Bn}{out:List E3}(h:Vj l out):out.length<=l.length:=by
 have:=D6w h.nd h.sub
 rwa [Bc]at this
def Vj.step{l:List Bn}{out:List E3}(h:Vj l out)(n:E3){e:Bn}(L:e∈l):Vj l (Pj n out e):=by
 unfold Pj;split
 .rename_i I;refine⟨?_,λx hx=>?_⟩
  .rw[Ao4];exact⟨h.nd,by simp,λa J b E=>by simp only[B1,E5,Ea]at E;rintro rfl;exact I.2 (E ▸ J)⟩
  .rcases Bz.1 hx with hx|hx
   .exact h.sub x hx
   .simp only[B1,E5,Ea]at hx;subst hx;exact Au.2 ⟨e,L,rfl⟩
 .exact h
def F8v(n:E3)(out:List E3)(e:Bn):out.length<=(Pj n out e).length:=by unfold Pj;split <;> simp
def E4p(n:E3):∀(l:List Bn)(out:List E3),out.length<=(l.foldl (Pj n) out).length
 |[],_=>by simp
 |e::l,out=>by rw[Lo];exact Cp (F8v n out e) (E4p n l _)
abbrev Lx:List Nat:=[0,1,3,4,5,6,7,11,17,45]
def F2o(l:List Bn)(n:E3)(hl:l.length<=1000000000000):Aa prog 198 [Gv l,U9 n] (.d (.slice (U3 (A2v l n)))):=by
 have hR:∃R,A2v l n=R:=⟨_,rfl⟩;obtain⟨R,hR⟩:=hR;rw[hR];unfold A2v at hR;refine cB func198 ?_;refine sR Lx ?_;refine sR Lx ?_;refine A0.pp 5 3 5 rfl<|kR Lx λK1 u1=>?_;refine A0.bb (A0.loop (X:=Nat × Int × List E3) (λz=>[(0,Gv l),(3,.box 3 0),(5,.acc 5),(6,A5 z.2.1)]) (λz=>[(3,.cells (noS n)),(5,.rows 3 (U3 z.2.2))])
  (λz=>A2s l n z.1 z.2.1 z.2.2=R/\Vj l z.2.2/\(z.2.1=(z.2.2.length:Int)\/l.length+3<=z.1+z.2.2.length)) (λz=>z.1) (l.length+3,-1,[])
  ⟨hR,⟨by simp,by simp⟩,.inr (by simp)⟩ sS (by simp[ble,A7,U3]) ?_)
 rintro⟨k,c,out⟩ ⟨hI,hO,hF⟩;simp only at hI hO hF |-;have a5:=hO.len;by_cases hc:c=(out.length:Int)
 .have a1:R=out:=by
   cases k with
   |zero=>rw[A2s]at hI;exact hI.symm
   |succ k=>rw[A2s,A8 hc]at hI;exact hI.symm
  subst a1;refine sK λU u2=>?_
  (refine sQ Lx λK z=>?_;simp -implicitDefEqProofs only[EV,Nat.reduceEqDiff,reduceCtorEq,A2j,hc,Yq,];apply z;clear z K)
  refine A0.ss rfl ?_;simp only[A4,Ac,Af];refine u1 _ _ ?_;clear u2 U u1 K1;refine sR Lx ?_;exact aR
 have a4:=hF.resolve_left hc;cases k with
 |zero=>omega
 |succ k =>
 rw[A2s,A6 hc]at hI;refine sK λU u2=>?_
 (refine sQ Lx λK z=>?_;simp -implicitDefEqProofs only[EV,Nat.reduceEqDiff,reduceCtorEq,A2j,hc,Yq,];apply z;clear z K)
 refine gI u2 ?_;clear u2 U;refine A0.bb ?_
 (refine sQ Lx λK z=>?_;simp -implicitDefEqProofs only[EV,Nat.reduceEqDiff,reduceCtorEq,A2j,Yq];apply z;clear z K)
 refine sR Lx ?_;refine A0.bb (A0.ii l (X:=List E3) (λj z=>[(0,Gv l),(3,.box 3 0),(5,.acc 5),(6,A5 out.length),(7,A5 j)]) (λj z=>[(3,.cells (noS n)),(5,.rows 3 (U3 z))])
  (λj z=>(l.drop j).foldl (Pj n) z=l.foldl (Pj n) out/\Vj l z) out ⟨rfl,hO⟩ sS sB ?_ ?_)
 rotate_left
 .intro j z e E a0 dp tk a3 J;obtain⟨J,W⟩:=J;have hj:=(Az.1 E).1;have a6:=W.len;have I:=W.step n a0;have V:=I.len;rw[dp,Lo]at J;have L:=C2t z e.src (by omega);have O:=C2t z e.dst (by omega);refine sK λU u2=>?_
  (refine sQ Lx λK z=>?_;simp -implicitDefEqProofs only[EV,Nat.reduceEqDiff,reduceCtorEq,I4,a3,P8];apply z;clear z K)
  refine gI u2 ?_;clear u2 U;refine sK λU u2=>A0.bb ?_;have skip:Pj n z e=z->∀sl bx,sle sl [(0,Gv l),(3,.box 3 0),(5,.acc 5),(6,A5 out.length),(7,A5 j)]->ble bx [(3,.cells (noS n)),(5,.rows 3 (U3 z))]->U sl bx:=by
   intro hr sl bx s1 s2;rw[hr]at J;refine u2 _ _ (A0.ww s1 s2 ?_);clear u2 U
   (refine lV Lx λK z=>?_;refine cl ?_;apply z;clear z K;try simp only[A4,])
   exact⟨z,⟨J,W⟩,sS,by simp[ble,A7]⟩
  by_cases h1:e.src=n\/e.src∈z
  .by_cases h2:e.dst∈z
   .rw[Bj h2]at O;have hr:Pj n z e=z:=by unfold Pj;rw[A6 (λh=>h.2 h2)]
    by_cases Z:e.src=n
    ·(refine sG Lx [] 23 [] λK z=>?_;refine ev ?_;refine⟨by omega,_,Gn E,rfl,?_⟩;(try simp -implicitDefEqProofs only[EV,Nat.reduceAdd,Nat.reduceEqDiff,Nat.reduceLeDiff,reduceCtorEq,Mf,Ev,Z]);refine⟨_,Y8 n n rfl rfl,?_⟩;(try refine ev ?_);refine⟨by omega,_,Gn E,rfl,?_⟩;(try simp -implicitDefEqProofs only[EV,Nat.reduceAdd,Nat.reduceEqDiff,Nat.reduceLeDiff,reduceCtorEq,Ev,Z]);refine⟨_,.inr ⟨_,rfl,O,rfl⟩,?_⟩;(try refine ev ?_);apply z;clear z K)
     refine A0.ff rfl (A0.kk ?_);exact skip hr _ _ sS sB
    .rw[Bj (h1.resolve_left Z)]at L
     (refine sG Lx [] 23 [] λK z=>?_;refine ev ?_;refine⟨by omega,_,Gn E,rfl,?_⟩;(try simp -implicitDefEqProofs only[EV,Nat.reduceAdd,Nat.reduceEqDiff,Nat.reduceLeDiff,reduceCtorEq,Mf,Ev]);refine⟨_,Y8 e.src n rfl rfl,?_⟩;(try refine Ap Z ?_);refine⟨by omega,_,Gn E,rfl,?_⟩;(try simp -implicitDefEqProofs only[EV,Nat.reduceAdd,Nat.reduceEqDiff,Nat.reduceLeDiff,reduceCtorEq,Ev]);refine⟨_,.inr ⟨_,rfl,L,rfl⟩,?_⟩;(try refine ev ?_);refine⟨by omega,_,Gn E,rfl,?_⟩;(try simp -implicitDefEqProofs only[EV,Nat.reduceAdd,Nat.reduceEqDiff,Nat.reduceLeDiff,reduceCtorEq,Ev]);refine⟨_,.inr ⟨_,rfl,O,rfl⟩,?_⟩;(try refine ev ?_);apply z;clear z K)
     refine A0.ff rfl (A0.kk ?_);exact skip hr _ _ sS sB
   .rw[C9 h2]at O;have hr:Pj n z e=z++[e.dst]:=by unfold Pj;rw[A8 ⟨h1,h2⟩]
    rw[hr]at J I V;rw[B6]at V;simp only[Bg,Ca]at V;by_cases Z:e.src=n
    ·(refine sG Lx [] 23 [] λK z=>?_;refine ev ?_;refine⟨by omega,_,Gn E,rfl,?_⟩;(try simp -implicitDefEqProofs only[EV,Nat.reduceAdd,Nat.reduceEqDiff,Nat.reduceLeDiff,reduceCtorEq,Mf,Ev,Z]);refine⟨_,Y8 n n rfl rfl,?_⟩;(try refine ev ?_);refine⟨by omega,_,Gn E,rfl,?_⟩;(try simp -implicitDefEqProofs only[EV,Nat.reduceAdd,Nat.reduceEqDiff,Nat.reduceLeDiff,reduceCtorEq,Ev,Z]);refine⟨_,.inr ⟨_,rfl,O,rfl⟩,?_⟩;(try refine ev ?_);apply z;clear z K)
     refine A0.tt rfl ?_
     (refine lV Lx λK z=>?_;refine⟨by omega,_,Gn E,rfl,?_⟩;(try simp -implicitDefEqProofs only[EV,Nat.reduceAdd,Nat.reduceEqDiff,Nat.reduceBEq,Nat.reduceLeDiff,Nat.reduceMul,reduceCtorEq,Mf,A2j,Ev,Yq]);refine⟨by simp,by(try simp only[Yq]);unfold lim;omega,?_⟩;apply z;clear z K;try simp only[A4,Ac])
     refine u2 _ _ ?_;clear skip u2 U
     (refine lV Lx λK z=>?_;refine cl ?_;apply z;clear z K;try simp only[A4,])
     exact⟨z++[e.dst],⟨J,I⟩,sS,by simp[ble,A7,U3,noC]⟩
    .rw[Bj (h1.resolve_left Z)]at L
     (refine sG Lx [] 23 [] λK z=>?_;refine ev ?_;refine⟨by omega,_,Gn E,rfl,?_⟩;(try simp -implicitDefEqProofs only[EV,Nat.reduceAdd,Nat.reduceEqDiff,Nat.reduceLeDiff,reduceCtorEq,Mf,Ev]);refine⟨_,Y8 e.src n rfl rfl,?_⟩;(try refine Ap Z ?_);refine⟨by omega,_,Gn E,rfl,?_⟩;(try simp -implicitDefEqProofs only[EV,Nat.reduceAdd,Nat.reduceEqDiff,Nat.reduceLeDiff,reduceCtorEq,Ev]);refine⟨_,.inr ⟨_,rfl,L,rfl⟩,?_⟩;(try refine ev ?_);refine⟨by omega,_,Gn E,rfl,?_⟩;(try simp -implicitDefEqProofs only[EV,Nat.reduceAdd,Nat.reduceEqDiff,Nat.reduceLeDiff,reduceCtorEq,Ev]);refine⟨_,.inr ⟨_,rfl,O,rfl⟩,?_⟩;(try refine ev ?_);apply z;clear z K)
     refine A0.tt rfl ?_
     (refine lV Lx λK z=>?_;refine⟨by omega,_,Gn E,rfl,?_⟩;(try simp -implicitDefEqProofs only[EV,Nat.reduceAdd,Nat.reduceEqDiff,Nat.reduceBEq,Nat.reduceLeDiff,Nat.reduceMul,reduceCtorEq,Mf,A2j,Ev,Yq]);refine⟨by simp,by(try simp only[Yq]);unfold lim;omega,?_⟩;apply z;clear z K;try simp only[A4,Ac])
     refine u2 _ _ ?_;clear skip u2 U
     (refine lV Lx λK z=>?_;refine cl ?_;apply z;clear z K;try simp only[A4,])
     exact⟨z++[e.dst],⟨J,I⟩,sS,by simp[ble,A7,U3,noC]⟩
  .have hr:Pj n z e=z:=by unfold Pj;rw[A6 (λh=>h1 h.1)]
   have Z:¬e.src=n:=λh=>h1 (.inl h);rw[C9 (λh=>h1 (.inr h))]at L
   (refine sG Lx [] 23 [] λK z=>?_;refine ev ?_;refine⟨by omega,_,Gn E,rfl,?_⟩;(try simp -implicitDefEqProofs only[EV,Nat.reduceAdd,Nat.reduceEqDiff,Nat.reduceLeDiff,reduceCtorEq,Mf,Ev]);refine⟨_,Y8 e.src n rfl rfl,?_⟩;(try refine Ap Z ?_);refine⟨by omega,_,Gn E,rfl,?_⟩;(try simp -implicitDefEqProofs only[EV,Nat.reduceAdd,Nat.reduceEqDiff,Nat.reduceLeDiff,reduceCtorEq,Ev]);refine⟨_,.inr ⟨_,rfl,L,rfl⟩,?_⟩;(try refine ev ?_);apply z;clear z K)
   refine A0.ff rfl (A0.kk ?_);exact skip hr _ _ sS sB
 intro z J;obtain⟨J,W⟩:=J;rw[Db,Vs]at J;have a2:=E4p n l out;rw[<-J]at hI a2;refine sK λU u2=>?_
 (refine sQ Lx λK z=>?_;simp -implicitDefEqProofs only[EV,Nat.reduceEqDiff,reduceCtorEq,I4,B3,P8];apply z;clear z K)
 refine A0.ss rfl ?_;simp only[A4,Ac,Af];refine⟨(k,(out.length:Int),z),⟨hI,W,?_⟩,by simp only;omega,sS,by simp[ble,A7]⟩;simp only;by_cases h:z.length=out.length
 .exact .inl (by omega)
 .exact .inr (by omega)
def F3p(l:List Bn)(a b:E3)(I:l.length<=1000000000000)(hr:(A2v l a).length<=1000000000000):Aa prog 135 [Gv l,U9 a,U9 b] (Aw (B4k l a b)):=by
 have J:=F2o l a I;have E:=C2t (A2v l a) b hr;unfold B4k;generalize A2v l a=z at*;refine cB func135 ?_;refine sR [0,1,2,4,5,6] ?_
 (refine sG [0,1,2,4,5,6] [] 4 [] λK z=>?_;refine ev ?_;refine cc J ?_;refine cc E ?_;apply z;clear z K)
 exact aR
def E3k(n:E3)(l:List Bn):∀(m:List Bn)(out:List E3),(∀e,e∈m->e∈l)->Vj l out->Vj l (m.foldl (Pj n) out)
 |[],_,_,h=>h
 |e::m,out,E,h=>by rw[Lo];exact E3k n l m _ (λx I=>E x (by simp[I])) (h.step n (E e (by simp)))
def E0w(l:List Bn)(n:E3):∀(k:Nat)(c:Int)(out:List E3),Vj l out->Vj l (A2s l n k c out)
 |0,_,_,h=>h
 |k+1,c,out,h=>by
  rw[A2s];split
  .exact h
  .exact E0w l n k _ _ (E3k n l l out (λ_ h=>h) h)
def F0a(l:List Bn)(n:E3):(A2v l n).length<=l.length:=(E0w l n _ _ _ ⟨by simp,by simp⟩).len
def A1j(l:List Bn)(e:Bn):Bool:=e.ins && (decide (e.dst=e.src) ||B4k l e.dst e.src)
abbrev Q7:List Nat:=[0,2,3,4,8,42]
def G6m(l:List Bn)(V:l.length<=1000000000000):Aa prog 54 [Gv l] (Gv (B9y l)):=by
 refine cB func54 ?_;refine sR Q7 ?_;refine sR Q7 ?_;refine A0.pp 3 7 3 rfl<|kR Q7 λK1 u1=>?_;refine A0.bb (A0.ii l (X:=Unit) (λj _=>[(0,Gv l),(3,.acc 3),(4,A5 j)]) (λj _=>[(3,.rows 7 (L0 ((l.take j).filter (A1j l))))])
  (λ_ _=>True) () trivial sS (by simp[ble,A7,L0]) ?_ ?_)
 rotate_left
 .intro j _ e J U dp tk O _;have Z:=(Az.1 J).1;have W:=F3p l e.dst e.src V (Cp (F0a l e.dst) V);have e2:L0 ((l.take (j+1)).filter (A1j l))=L0 ((l.take j).filter (A1j l))++(if A1j l e=true then[Ev e]else[]):=by
   rw[J0 Z,(Az.1 J).2,Ap4];simp only[L0,G0,Aq8,Ar5];split <;> simp
  have e3:(L0 ((l.take j).filter (A1j l))).length<=j:=by rw[P8];exact Cp (An9 _ _) (by rw[D4];omega)
  rw[e2];generalize L0 ((l.take j).filter (A1j l))=PR at*;unfold A1j;generalize B4k l e.dst e.src=lb at*;refine sK λL u2=>?_
  (refine sQ Q7 λK z=>?_;simp -implicitDefEqProofs only[EV,Nat.reduceEqDiff,reduceCtorEq,I4,O,P8];apply z;clear z K)
  refine gI u2 ?_;clear u2 L;refine sK λL u2=>A0.bb ?_;cases I:e.ins with
  |false =>
   simp only[C3,I0,Fx,Fj]
   (refine sG Q7 [] 29 [] λK z=>?_;refine ev ?_;refine⟨by omega,_,Gn J,rfl,?_⟩;(try simp -implicitDefEqProofs only[EV,Nat.reduceEqDiff,reduceCtorEq,Ev,I]);apply z;clear z K)
   refine A0.ff rfl (A0.kk (u2 _ _ ?_));clear u2 L
   (refine lV Q7 λK z=>?_;refine cl ?_;apply z;clear z K;try simp only[A4,])
   exact⟨(),trivial,sS,by simp[ble,A7,I]⟩
  |true =>
   by_cases E:e.dst=e.src
   .simp only[Cj,Bj E,Uk,Af]
    (refine sG Q7 [] 29 [] λK z=>?_;refine ev ?_;refine⟨by omega,_,Gn J,rfl,?_⟩;(try simp -implicitDefEqProofs only[EV,Nat.reduceAdd,Nat.reduceEqDiff,reduceCtorEq,I4,Mf,M3,Ev,I,E]);refine⟨by omega,_,Gn J,rfl,?_⟩;(try simp -implicitDefEqProofs only[EV,Nat.reduceAdd,Nat.reduceEqDiff,Nat.reduceLeDiff,reduceCtorEq,I4,Mf,M3,Ev,I,E]);refine⟨by omega,_,Gn J,rfl,?_⟩;(try simp -implicitDefEqProofs only[EV,Nat.reduceAdd,Nat.reduceEqDiff,Nat.reduceLeDiff,reduceCtorEq,Ev,I,E]);refine⟨_,Y8 e.src e.src rfl rfl,?_⟩;(try refine ev ?_);apply z;clear z K)
    refine A0.tt rfl ?_
    (refine lV Q7 λK z=>?_;refine⟨by omega,_,Gn J,rfl,?_⟩;(try simp -implicitDefEqProofs only[EV,Nat.reduceAdd,Nat.reduceEqDiff,Nat.reduceBEq,Nat.reduceLeDiff,Nat.reduceMul,reduceCtorEq,I4,M3,Ev]);refine⟨by simp,by unfold lim;omega,?_⟩;apply z;clear z K;try simp only[A4,Ac])
    refine u2 _ _ ?_;clear u2 L
    (refine lV Q7 λK z=>?_;refine cl ?_;apply z;clear z K;try simp only[A4,])
    exact⟨(),trivial,sS,by simp[ble,A7,I,E,Ev]⟩
   .cases lb with
    |true =>
     simp only[Cj,Bool.or_true,Af]
     (refine sG Q7 [] 29 [] λK z=>?_;refine ev ?_;refine⟨by omega,_,Gn J,rfl,?_⟩;(try simp -implicitDefEqProofs only[EV,Nat.reduceAdd,Nat.reduceEqDiff,reduceCtorEq,I4,Mf,M3,Ev,I]);refine⟨by omega,_,Gn J,rfl,?_⟩;(try simp -implicitDefEqProofs only[EV,Nat.reduceAdd,Nat.reduceEqDiff,Nat.reduceLeDiff,reduceCtorEq,I4,Mf,M3,Ev,I]);refine⟨by omega,_,Gn J,rfl,?_⟩;(try simp -implicitDefEqProofs only[EV,Nat.reduceAdd,Nat.reduceEqDiff,Nat.reduceLeDiff,reduceCtorEq,Ev,I]);refine⟨_,Y8 e.dst e.src rfl rfl,?_⟩;(try refine Ap E ?_);refine⟨by omega,_,Gn J,rfl,?_⟩;(try simp -implicitDefEqProofs only[EV,Nat.reduceAdd,Nat.reduceEqDiff,Nat.reduceLeDiff,reduceCtorEq,I4,Mf,M3,Ev,I]);refine⟨by omega,_,Gn J,rfl,?_⟩;(try simp -implicitDefEqProofs only[EV,Nat.reduceAdd,Nat.reduceEqDiff,Nat.reduceLeDiff,reduceCtorEq,Ev,I]);refine cc W ?_;apply z;clear z K)
     refine A0.tt rfl ?_
     (refine lV Q7 λK z=>?_;refine⟨by omega,_,Gn J,rfl,?_⟩;(try simp -implicitDefEqProofs only[EV,Nat.reduceAdd,Nat.reduceEqDiff,Nat.reduceBEq,Nat.reduceLeDiff,Nat.reduceMul,reduceCtorEq,I4,M3,Ev]);refine⟨by simp,by unfold lim;omega,?_⟩;apply z;clear z K;try simp only[A4,Ac])
     refine u2 _ _ ?_;clear u2 L
     (refine lV Q7 λK z=>?_;refine cl ?_;apply z;clear z K;try simp only[A4,])
     exact⟨(),trivial,sS,by simp[ble,A7,I,E,Ev]⟩
    |false =>
     simp only[Cj,C9 E,Ar2,I0,Fx,Fj]
     (refine sG Q7 [] 29 [] λK z=>?_;refine ev ?_;refine⟨by omega,_,Gn J,rfl,?_⟩;(try simp -implicitDefEqProofs only[EV,Nat.reduceAdd,Nat.reduceEqDiff,reduceCtorEq,I4,Mf,M3,Ev,I]);refine⟨by omega,_,Gn J,rfl,?_⟩;(try simp -implicitDefEqProofs only[EV,Nat.reduceAdd,Nat.reduceEqDiff,Nat.reduceLeDiff,reduceCtorEq,I4,Mf,M3,Ev,I]);refine⟨by omega,_,Gn J,rfl,?_⟩;(try simp -implicitDefEqProofs only[EV,Nat.reduceAdd,Nat.reduceEqDiff,Nat.reduceLeDiff,reduceCtorEq,Ev,I]);refine⟨_,Y8 e.dst e.src rfl rfl,?_⟩;(try refine Ap E ?_);refine⟨by omega,_,Gn J,rfl,?_⟩;(try simp -implicitDefEqProofs only[EV,Nat.reduceAdd,Nat.reduceEqDiff,Nat.reduceLeDiff,reduceCtorEq,I4,Mf,M3,Ev,I]);refine⟨by omega,_,Gn J,rfl,?_⟩;(try simp -implicitDefEqProofs only[EV,Nat.reduceAdd,Nat.reduceEqDiff,Nat.reduceLeDiff,reduceCtorEq,Ev,I]);refine cc W ?_;apply z;clear z K)
     refine A0.ff rfl (A0.kk (u2 _ _ ?_));clear u2 L
     (refine lV Q7 λK z=>?_;refine cl ?_;apply z;clear z K;try simp only[A4,])
     exact⟨(),trivial,sS,by simp[ble,A7,I,E]⟩
 intro _ _;rw[Ci];refine sK λL u2=>?_
 (refine sQ Q7 λK z=>?_;simp -implicitDefEqProofs only[EV,Nat.reduceEqDiff,reduceCtorEq,I4,B3,P8];apply z;clear z K)
 refine A0.ss rfl ?_;simp only[A4,Ac,Af];refine u1 _ _ ?_;clear u2 L u1 K1;refine sR Q7 ?_;rw[show B9y l=l.filter (A1j l) from rfl];exact aR
def E9w(p:Prog)(h:p.Sm)(I:∀d,d∈p.decls->(B8 d.body).length<=sm)(O:P2 p.decls<=72000):Aa prog 21 [Ct p] (Aw (B6i p)):=by
 have V:=G2o p h I O;have J:(A6j p).length<=1000000000000:=by have:=A9m (g:=Decl.al) D9h p.decls [];have L:P2 p.decls*P2 p.decls<=72000*72000:=Nat.mul_le_mul O O;unfold P2 at*;unfold A6j;simp only[Ca]at this;omega
 have L:=G6m (A6j p) J;unfold B6i;generalize A6j p=l at*;generalize B9y l=x at*;by_cases U:x.length=0
 .have E:((x.length:Nat):Int)=0:=by omega
  rw[Bj U];refine cB func21 ?_;refine sR [0,1,2] ?_
  (refine sV [0,1,2] λK z=>?_;refine cc V ?_;refine⟨_,.inl ⟨_,rfl,L,rfl⟩,?_⟩;(try simp -implicitDefEqProofs only[EV,Nat.reduceEqDiff,reduceCtorEq,E,P8,I4]);apply z;clear z K)
  exact aR
 .have E:¬((x.length:Nat):Int)=0:=by omega
  rw[C9 U];refine cB func21 ?_;refine sR [0,1,2] ?_
  (refine sV [0,1,2] λK z=>?_;refine cc V ?_;refine⟨_,.inl ⟨_,rfl,L,rfl⟩,?_⟩;(try simp -implicitDefEqProofs only[EV,Nat.reduceEqDiff,reduceCtorEq,E,P8,I4]);apply z;clear z K)
  exact aR
open Go Go.Proofs Go.Sort Tryz
def J9(l:List Param):List Param:=l.map λf=>⟨f.name,Pd f.type,0⟩
def headD(k:Int)(nm:A2)(fs:List Param)(ss:List A3):Decl:=⟨k,nm,[],fs,ss,[],[],Io,Uu,0⟩
def Jy(nm:A2)(s:A3):Decl:=⟨3,nm,[],[],[],[114],[],Hd s,.mk 3 [] A6m [] [] 0,0⟩
def B7r(M:B9->Option Decl)(p:Prog)(calls:List B9)(x:Ty):List Decl:=if Bh p x 1=true then headD 1 x.mg (J9 (Bx p x)) []::(calls.filterMap M++(C7 p [] x).map (Jy x.mg))else[]
abbrev deH(nm:A2)(x:SV):List SV:=[.d (.int .i64 1),.d (.str nm),.d .nil,x,.d .nil,.d (.str []),.d .nil,.d (.str []),.d .nil,.d .nil,.d (.str []),.d .nil,.d (.int .i64 0),.d (.int .i64 0),.d (.int .i64 0),.d (.str []),.d (.str []),.d .nil,.d (.int .i64 0),.d .nil,.d .nil,.d (.int .i64 0),.d (.int .i64 0)]
def E8t{l:List Param}{j:Nat}{d:Param}(h:l[j]?=some d):Av (J9 (l.take (j+1)))=Av (J9 (l.take j))++[G9 ⟨d.name,Pd d.type,0⟩]:=by have E:=(Az.1 h).1;rw[J0 E,(Az.1 h).2];simp[J9,Av]
def F6f{p:Prog}(ht:∀d,d∈p.decls->d.Tl)(hr:p.right=true)(hs:p.Sm){x:Ty}(U:∀u,u∈x.args->u.Ni 12000):∀f,f∈Bx p x->f.type.Ni 360000000:=by
 intro f I;unfold Bx at I;split at I
 .rename_i V;obtain⟨d,hd,_⟩:=Mm (by decide) V;rw[hd,Dz]at I;unfold fieldsD at I;obtain⟨y,L,rfl⟩:=Au.1 I;have E:=P9 hd;simp only[Prog.right,Bb,Dm]at hr;have h:=hr.1 d E;simp only[Decl.right,Mb,Bb,Dm]at h;have J:=h.2.2.1 y L;have O:y.type.Ni 120000:=⟨Ty.A6c ((hs.decls.2 d E).fields.2 y L).type J.2,(ht d E).fields y L⟩;exact Ty.Ni.subst (B:=120000) (M:=12000) (by decide) U O
 .simp at I
open Go Go.Proofs Tryz
abbrev mnS(e:Ex):List SV:=[.d (.int .i64 e.kind),.d (.str e.name),.d (.str e.type.name),.d (.slice (Ax e.type.args)),.d (.int .i64 e.type.pos),.d (.slice (Ax e.targs)),.d (.slice (Eb e.kids)),.d (.int .i64 e.pos)]
def M9:Decl:=headD 1 A4i [] []
def B6s(p:Prog):Bool:=decide (p.count<=600) && (p.right && (!(A4y p true).bad && B6i p))
abbrev Qg:List Nat:=[0,1,2,18]
def F1h(p:Prog):Aa prog 6 [Ct p] (A5 (if B6s p=true then 1 else 0)):=by
 have I:=G7j p;unfold B6s;by_cases J:p.count<=600;rotate_left
 .rw[C9 J]at I |-;rw[C3,A6 (by simp)];refine cB func6 ?_;refine sR Qg ?_;refine kC I Qg λL u1=>?_;refine kI u1 ?_;refine sR Qg ?_;exact aR
 rw[Bj J]at I |-;rw[Cj];have E:=Prog.X8 p J;have O:=Prog.Tp p J;have hr:=F4h p E.sm (Prog.Nw p J);have U:=G8q p E true;have V:=E9w p E.sm (λd hd=>by have:=(O.decls d hd).body.list;unfold sm;omega) (Prog.A6z p J);generalize p.right=b1 at*;generalize B6i p=b3 at*;generalize A4y p true=r at*;obtain⟨q,W,lg⟩:=r;cases b1 with
 |false =>
  rw[C3,A6 (by simp)];refine cB func6 ?_;refine sR Qg<|sK λL u1=>?_
  (refine sV Qg λK z=>?_;refine cc I ?_;refine cc hr ?_;apply z;clear z K)
  refine kI u1 ?_;refine sR Qg ?_;exact aR
 |true =>
 cases W with
 |true =>
  rw[show(true && (!(F8.mk q true lg).bad && b3))=false from rfl,A6 (by simp)];refine cB func6 ?_;refine sR Qg<|sK λL u1=>?_
  (refine sV Qg λK z=>?_;refine cc I ?_;refine cc hr ?_;refine cc U ?_;apply z;clear z K)
  refine kI u1 ?_;refine sR Qg ?_;exact aR
 |false =>
 rw[show(true && (!(F8.mk q false lg).bad && b3))=b3 from rfl];cases b3 with
 |false =>
  rw[A6 (by simp)];refine cB func6 ?_;refine sR Qg<|sK λL u1=>?_
  (refine sV Qg λK z=>?_;refine cc I ?_;refine cc hr ?_;refine cc U ?_;refine cc V ?_;apply z;clear z K)
  refine kI u1 ?_;refine sR Qg ?_;exact aR
 |true =>
  rw[A8 rfl];refine cB func6 ?_;refine sR Qg<|sK λL u1=>?_
  (refine sV Qg λK z=>?_;refine cc I ?_;refine cc hr ?_;refine cc U ?_;refine cc V ?_;apply z;clear z K)
  refine tI ?_;refine sR Qg ?_;exact aR
def t23:Ty:=.mk [84] [] 0
def C6m(t:Ty):(Pd t).Lm:=.mk _ _ _ (by simp) (by simp)
def D3m{l:List A3}{c:B9}{s:A3}(L:∀x,x∈l->x.params.length<=2000)(h:B0s l c=some s):s.Lm:=by
 unfold B0s at h;split at h
 .cases h
 .rename_i O;obtain⟨y,J,E⟩:=C2g O;rw[J,Dz]at h;split at h
  .cases h;refine⟨⟨by simp[E1],by simp[E1]⟩,⟨by have:=L y E;simp only[E1,A7u,Bc];unfold sm;omega,λf I=>?_⟩,C6m _⟩;unfold E1 H9 at I;obtain⟨i,x,_,_,rfl⟩:=mem_mapIdx I;exact C6m _
  .cases h
end Go.Abs
