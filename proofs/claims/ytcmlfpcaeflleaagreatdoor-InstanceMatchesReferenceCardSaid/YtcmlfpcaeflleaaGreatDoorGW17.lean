/- castingsref18: sig, Decl, Edges; castingsref19: has, Reach, Leads, Expansive, Is -/
import Derived.Test.YtcmlfpcaeflleaaGreatDoorGW13
import Derived.Test.YtcmlfpcaeflleaaGreatDoorGW14
import Derived.Test.YtcmlfpcaeflleaaGreatDoorGU06
set_option linter.all false
set_option maxHeartbeats 4000000
set_option maxRecDepth 100000
namespace Go.Abs
open Go Go.Proofs Tryz
abbrev C7g(s:A5):List SV:=[.d (.str s.name),.d (.slice (Ar s.A1)),.d (.slice (B9 s.params)),.d (.str s.result.name),.d (.slice (Au s.result.args)),.d (.int .i64 s.result.pos),.d (.int .i64 s.pos)]
abbrev V3:List Nat:=[0,1,2,5,6,7,8,13,37]
def C7r(s:List Hg)(hs:s.length<=10*sm)(l:List Bq)(x:A5)(hf:x.A1.length<=sm)(hp:x.params.length<=sm)(hl:l.length+x.al*x.al<=1000000000000):Ac prog 189 [Gx l,R7 s,Ea x] (Gx (Tv s l x)):=by
 have L:∃R1,x.A1.foldl (λl f=>Gq s false f.bound.name 0 l f.bound.args) l=R1:=⟨_,rfl⟩;obtain⟨R1,L⟩:=L;have M:∃R2,x.params.foldl (λl p=>Gq s false p.type.name 0 l p.type.args) R1=R2:=⟨_,rfl⟩;obtain⟨R2,M⟩:=M;have e0:Tv s l x=Gq s false x.result.name 0 R2 x.result.args:=by unfold Tv;rw[L,M]
 rw[e0];unfold A5.al at hl;obtain⟨B,hB⟩:∃B,B=Pw x.params+Ty.C4 x.result.args:=⟨_,rfl⟩;obtain⟨C,hC⟩:∃C,C=Ty.C4 x.result.args:=⟨_,rfl⟩;refine cB func189 ?_;refine sR V3 ?_;refine kR V3 λK1 u1=>?_;refine A0.bb (A0.ii x.A1 (X:=List Bq) (λj z=>[(0,Gx z),(1,R7 s),(5,.box 5 0),(7,A8 j)]) (λj z=>[(5,.cells (C7g x))])
  (λj z=>(x.A1.drop j).foldl (λl f=>Gq s false f.bound.name 0 l f.bound.args) z=R1/\z.length+(Tp (x.A1.drop j)+B)*(Tp (x.A1.drop j)+B)<=1000000000000) l
  ⟨L,by rw[Ao7,hB];rw[Wr]at hl;exact hl⟩ sS sB ?_ ?_)
 rotate_left
 .intro j z d O W V tk U E;obtain⟨E,hz⟩:=E;have hj:=(B5.1 O).1;rw[V,Jp]at E;have e1:Tp (x.A1.drop j)+B=Ty.C4 d.bound.args+(Tp (x.A1.drop (j+1))+B):=by rw[V];simp only[Tp,Ck,Mi];omega
  rw[e1]at hz;have I:=Z2 s d.bound.args false d.bound.name 0 z;have h1:=A6a hz I;have h2:=Uf (Ty.C4 d.bound.args) (Tp (x.A1.drop (j+1))+B);have Z:=B2q s hs false d.bound.name d.bound.args z (by omega);generalize Gq s false d.bound.name 0 z d.bound.args=z2 at*;refine Ai U V3 λJ u2=>?_;refine gI u2 ?_;clear u2 J;refine sK λJ u2=>A0.bb ?_
  (refine lG V3 [] 16 [] λK z=>?_;refine ev ?_;refine ci (F5 O) ?_;refine ci (F5 O) ?_;refine cc Z ?_;apply z;clear z K;try simp only[A4,Ab])
  refine u2 _ _ ?_;clear u2 J;refine lT V3 ?_;exact⟨z2,⟨E,h1⟩,sS,by simp[ble,A7]⟩
 intro z E;obtain⟨E,hz⟩:=E;rw[De]at E hz;rw[Q3]at E;subst E;have a1:z.length+(Pw x.params+C)*(Pw x.params+C)<=1000000000000:=by
  have:Tp []+B=Pw x.params+C:=by rw[hB,hC];simp[Tp]
  rw[this]at hz;exact hz
 refine Ai B3 V3 λJ u2=>?_;refine A0.ss rfl ?_;simp only[A4,Ab,Ae];refine u1 _ _ ?_;clear u2 J u1 K1;refine kR V3 λK1 u1=>?_;refine A0.bb (A0.ii x.params (X:=List Bq) (λj z=>[(0,Gx z),(1,R7 s),(5,.box 5 0),(8,A8 j)]) (λj z=>[(5,.cells (C7g x))])
  (λj z=>(x.params.drop j).foldl (λl p=>Gq s false p.type.name 0 l p.type.args) z=R2/\z.length+(Pw (x.params.drop j)+C)*(Pw (x.params.drop j)+C)<=1000000000000) z
  ⟨M,by rw[Ao7];exact a1⟩ sS sB ?_ ?_)
 rotate_left
 .intro j z d O W V tk U E;obtain⟨E,hz⟩:=E;have hj:=(B5.1 O).1;rw[V,Jp]at E;have e1:Pw (x.params.drop j)+C=Ty.C4 d.type.args+(Pw (x.params.drop (j+1))+C):=by rw[V];simp only[Pw,Ck,Mi];omega
  rw[e1]at hz;have I:=Z2 s d.type.args false d.type.name 0 z;have h1:=A6a hz I;have h2:=Uf (Ty.C4 d.type.args) (Pw (x.params.drop (j+1))+C);have Z:=B2q s hs false d.type.name d.type.args z (by omega);generalize Gq s false d.type.name 0 z d.type.args=z2 at*;refine Ai U V3 λJ u2=>?_;refine gI u2 ?_;clear u2 J;refine sK λJ u2=>A0.bb ?_
  (refine lG V3 [] 16 [] λK z=>?_;refine ev ?_;refine ci (E9 O) ?_;refine ci (E9 O) ?_;refine cc Z ?_;apply z;clear z K;try simp only[A4,Ab])
  refine u2 _ _ ?_;clear u2 J;refine lT V3 ?_;exact⟨z2,⟨E,h1⟩,sS,by simp[ble,A7]⟩
 intro z E;obtain⟨E,hz⟩:=E;rw[De]at E hz;rw[Q3]at E;subst E;have a0:z.length+Ty.C4 x.result.args*Ty.C4 x.result.args<=1000000000000:=by
  have:Pw []+C=Ty.C4 x.result.args:=by rw[hC];simp[Pw]
  rw[this]at hz;exact hz
 have Z:=B2q s hs false x.result.name x.result.args z a0;generalize Gq s false x.result.name 0 z x.result.args=z2 at*;refine Ai B3 V3 λJ u2=>?_;refine A0.ss rfl ?_;simp only[A4,Ab,Ae];refine u1 _ _ ?_;clear u2 J u1 K1;refine sC Z V3 ?_;exact aR
abbrev L1:List Nat:=[0,1,3,4,5,6,7,8,9,12,37,87]
def G8b(l:List Bq)(d:Decl)(hd:d.Sm)(a2:(Bg d.body).length<=sm)(hl:l.length+d.al*d.al<=1000000000000):Ac prog 131 [Gx l,Ma d] (Gx (A7d l d)):=by
 have a7:=hd.vars.1;have a0:=hd.A1.1;have ab:=hd.sigs.1;have a4:=hd.sig.A1.1;rw[E3w];unfold Decl.al at hl;by_cases hk:d.kind=3
 .rw[A9 hk]at hl |-;have a1:=B8x [] false d.name d.vars (by simp) a7;have hn:=Vq d.sig.A1 a4;rw[show d.sig.A1.map (·.name)=Af d.sig.A1 from rfl]at hn;have O:=B9b [] false d.name d.vars;have M:(Af d.sig.A1).length<=sm:=by simpa [Af]using a4
  generalize Lz [] false d.name d.vars=s1 at*;simp only[Dy,Nd]at O;have a3:=B8x s1 true d.sig.name (Af d.sig.A1) (by unfold sm at*;omega) M;have W:=B9b s1 true d.sig.name (Af d.sig.A1);generalize Lz s1 true d.sig.name (Af d.sig.A1)=s at*;have hs:s.length<=10*sm:=by unfold sm at*;omega
  have a':=Uf d.sig.al (U5 (Bg d.body));have hg:=C7r s hs l d.sig a4 hd.sig.params.1 (by omega);have J:=B0q s l d.sig;have a8:=C0g d.body a2;have hz:=A6a hl J;generalize Tv s l d.sig=z0 at*;have V:∃R,(Bg d.body).foldl (exE s) z0=R:=⟨_,rfl⟩;obtain⟨R,V⟩:=V;rw[V];generalize Bg d.body=es at*;refine cB func131 ?_;refine sR L1 ?_;refine Ai hk L1 λK1 u1=>?_;refine A0.tt rfl ?_
  (refine sG L1 [] 12 [] λK z=>?_;refine ev ?_;refine cc a1 ?_;refine cc hn ?_;refine cc a3 ?_;apply z;clear z K)
  refine sC hg L1 ?_;refine sC a8 L1 ?_;refine kR L1 λK2 u2=>?_;refine A0.bb (A0.ii es (X:=List Bq) (λj z=>[(0,Gx z),(5,R7 s),(6,.d (.slice (Ew es))),(7,A8 j)]) (λj z=>[])
   (λj z=>(es.drop j).foldl (exE s) z=R/\z.length+U5 (es.drop j)*U5 (es.drop j)<=1000000000000) z0 ⟨V,hz⟩ sS (by simp[ble]) ?_ ?_)
  rotate_left
  .intro j z e he Z dp tk a5 E;obtain⟨E,hz⟩:=E;have hj:=(B5.1 he).1;rw[dp,Jp]at E;have e1:U5 (es.drop j)=A0w e+U5 (es.drop (j+1)):=by rw[dp];simp only[U5,Ck,Mi]
   rw[e1]at hz;have h1:=A6a hz (D8e s z e);have h2:=Uf (A0w e) (U5 (es.drop (j+1)));have h3:=Uf (Ty.C4 e.type.args) (Ty.C4 e.targs);have h4:=Z2 s e.type.args false e.type.name 0 z;have a9:=B2q s hs false e.type.name e.type.args z (by unfold A0w at*;omega);unfold exE at E h1;unfold A0w at*;generalize Gq s false e.type.name 0 z e.type.args=z1 at*;have aa:=B2q s hs true e.name e.targs z1 (by omega);generalize Gq s true e.name 0 z1 e.targs=z2 at*;refine Ai a5 L1 λL I=>?_;refine gI I ?_;clear I L;refine sK λL I=>A0.bb ?_
   (refine sG L1 [] 14 [] λK z=>?_;refine ev ?_;refine ci (Dn he) ?_;refine ci (Dn he) ?_;refine cc a9 ?_;apply z;clear z K)
   (refine lG L1 [] 12 [] λK z=>?_;refine ev ?_;refine ci (Dn he) ?_;refine ci (Dn he) ?_;refine cc aa ?_;apply z;clear z K;try simp only[A4,Ab])
   refine I _ _ ?_;clear I L;refine lT L1 ?_;exact⟨z2,⟨E,h1⟩,sS,by simp[ble]⟩
  intro z E;obtain⟨E,_⟩:=E;rw[De,Q3]at E;subst E;refine Ai B3 L1 λL I=>?_;refine A0.ss rfl ?_;simp only[A4,Ab,Ae];refine u2 _ _ ?_;clear I L u2 K2;refine sR L1 ?_;exact aR
 .rw[A6 hk]at hl |-;have hn:=Vq d.A1 a0;rw[show d.A1.map (·.name)=Af d.A1 from rfl]at hn;have M:(Af d.A1).length<=sm:=by simpa [Af]using a0
  have a1:=B8x [] false d.name (Af d.A1) (by simp) M;have O:=B9b [] false d.name (Af d.A1);simp only[Dy,Nd]at O;generalize Lz [] false d.name (Af d.A1)=s at*;have hs:s.length<=10*sm:=by unfold sm at*;omega
  have a6:=D5v d;have a':=Uf (Tp d.A1+Pw d.fields) (A1u d.sigs);have hg:=C7r s hs l (A2n d) a0 hd.fields.1 (by rw[a6];omega);have J:=B0q s l (A2n d);rw[a6]at J;have hz:=A6a hl J;generalize Tv s l (A2n d)=z0 at*;unfold A2n at hg;have V:∃R,d.sigs.foldl (sgE s) z0=R:=⟨_,rfl⟩;obtain⟨R,V⟩:=V;rw[V];refine cB func131 ?_;refine sR L1 ?_;refine Ai hk L1 λK1 u1=>?_;refine A0.ff rfl (A0.kk (u1 _ _ ?_));clear u1 K1
  (refine sG L1 [] 5 [] λK z=>?_;refine ev ?_;refine cc hn ?_;refine cc a1 ?_;apply z;clear z K)
  refine sC hg L1 ?_;refine kR L1 λK2 u2=>?_;refine A0.bb (A0.ii d.sigs (X:=List Bq) (λj z=>[(0,Gx z),(3,.box 3 0),(8,R7 s),(9,A8 j)]) (λj z=>[(3,.cells (Uo d))])
   (λj z=>(d.sigs.drop j).foldl (sgE s) z=R/\z.length+A1u (d.sigs.drop j)*A1u (d.sigs.drop j)<=1000000000000) z0 ⟨V,hz⟩ sS sB ?_ ?_)
  rotate_left
  .intro j z x hx Z dp tk a5 E;obtain⟨E,hz⟩:=E;have hj:=(B5.1 hx).1;rw[dp,Jp]at E;have e1:A1u (d.sigs.drop j)=x.al+A1u (d.sigs.drop (j+1)):=by rw[dp];simp only[A1u,Ck,Mi]
   rw[e1]at hz;have U:=hd.sigs.2 x Z;have hn:=Vq x.A1 U.A1.1;rw[show x.A1.map (·.name)=Af x.A1 from rfl]at hn;have M:(Af x.A1).length<=sm:=by simpa [Af]using U.A1.1
   have a3:=B8x s true x.name (Af x.A1) hs M;have W:=B9b s true x.name (Af x.A1);unfold sgE at E;have h1:=A6a hz (B0q (Lz s true x.name (Af x.A1)) z x);have h2:=Uf x.al (A1u (d.sigs.drop (j+1)));have hc:=C7r (Lz s true x.name (Af x.A1)) (by rw[W];unfold sm at*;omega) z x U.A1.1 U.params.1 (by omega);generalize Lz s true x.name (Af x.A1)=s2 at*;generalize Tv s2 z x=z2 at*;refine Ai a5 L1 λL I=>?_;refine gI I ?_;clear I L;refine sK λL I=>A0.bb ?_
   (refine lG L1 [] 21 [] λK z=>?_;refine ev ?_;refine ci (F6 hx) ?_;refine ci (F6 hx) ?_;refine cc hn ?_;refine cc a3 ?_;refine ci (F6 hx) ?_;refine cc hc ?_;apply z;clear z K;try simp only[A4,Ab])
   refine I _ _ ?_;clear I L;refine lT L1 ?_;exact⟨z2,⟨E,h1⟩,sS,by simp[ble,A7]⟩
  intro z E;obtain⟨E,_⟩:=E;rw[De,Q3]at E;subst E;refine Ai B3 L1 λL I=>?_;refine A0.ss rfl ?_;simp only[A4,Ab,Ae];refine u2 _ _ ?_;clear I L u2 K2;refine sR L1 ?_;exact aR
abbrev A3x:List Nat:=[0,1,2,3,4,9]
def F2x(p:Prog)(h:p.Sm)(J:∀d,d∈p.decls->(Bg d.body).length<=sm)(W:Qb p.decls<=72000):Ac prog 72 [D7 p] (Gx (A7f p)):=by
 have a0:=h.decls.1;have M:∃R,p.decls.foldl A7d []=R:=⟨_,rfl⟩;obtain⟨R,M⟩:=M;unfold A7f;rw[M];have O:([]:List Bq).length+Qb p.decls*Qb p.decls<=1000000000000:=by have:Qb p.decls*Qb p.decls<=72000*72000:=Nat.mul_le_mul W W;simp only[Dy];omega
 refine cB func72 ?_;refine sR A3x ?_;refine sR A3x ?_;refine kR A3x λK1 u1=>?_;refine A0.bb (A0.ii p.decls (X:=List Bq) (λj z=>[(1,.box 1 0),(3,Gx z),(4,A8 j)]) (λj z=>[(1,.cells ((An p).map .d))])
  (λj z=>(p.decls.drop j).foldl A7d z=R/\z.length+Qb (p.decls.drop j)*Qb (p.decls.drop j)<=1000000000000) [] ⟨M,O⟩ (by simp[sle,Ax,Ag,M4]) (by simp[ble,A7,An]) ?_ ?_)
 rotate_left
 .intro j z d V I Z tk U E;obtain⟨E,hz⟩:=E;have hj:=(B5.1 V).1;rw[Z,Jp]at E;have e1:Qb (p.decls.drop j)=d.al+Qb (p.decls.drop (j+1)):=by rw[Z];simp only[Qb,Ck,Mi]
  rw[e1]at hz;have h1:=A6a hz (E0i z d);have h2:=Uf d.al (Qb (p.decls.drop (j+1)));have hc:=G8b z d (h.decls.2 d I) (J d I) (by omega);generalize A7d z d=z2 at*;refine Ai U A3x λL u2=>?_;refine gI u2 ?_;clear u2 L;refine sK λL u2=>A0.bb ?_
  (refine lV A3x λK z=>?_;refine ci (Ev V) ?_;refine cc hc ?_;apply z;clear z K;try simp only[A4,Ab])
  refine u2 _ _ ?_;clear u2 L;refine lT A3x ?_;exact⟨z2,⟨E,h1⟩,sS,by simp[ble,A7,An]⟩
 intro z E;obtain⟨E,_⟩:=E;rw[De,Q3]at E;subst E;refine Ai B3 A3x λL u2=>?_;refine A0.ss rfl ?_;simp only[A4,Ab,Ae];refine u1 _ _ ?_;clear u2 L u1 K1;refine sR A3x ?_;exact aR
abbrev A0e:List Nat:=[0,1,3,4,5,9,17]
def C5i(l:List Ed)(n:Ed)(hl:l.length<=1000000000000):Ac prog 186 [.d (.slice (Vb l)),V9 n] (Ay (decide (n∈l))):=by
 refine cB func186 ?_;refine sR A0e ?_;refine kR A0e λW u1=>?_;refine A0.bb (A0.ii l (X:=Unit) (λj _=>[(0,.d (.slice (Vb l))),(3,.box 3 0),(5,A8 j)]) (λj _=>[(3,.cells (noS n))])
  (λj _=>decide (n∈l)=decide (n∈l.drop j)) () rfl sS sB ?_ ?_)
 rotate_left
 .intro j _ d M I U Z O E;have V:=(B5.1 M).1;rw[U]at E;refine sK λJ u2=>?_
  (refine sQ A0e λK z=>?_;simp -implicitDefEqProofs only[EV,Nat.reduceEqDiff,reduceCtorEq,A3n,O,A1b];apply z;clear z K)
  refine gI u2 ?_;clear u2 J;refine sK λJ u2=>A0.bb ?_;by_cases L:d=n
  .subst L;rw[Bo I]
   (refine sG A0e [] 5 [] λK z=>?_;refine ev ?_;refine⟨by omega,_,E2f M,rfl,?_⟩;(try simp -implicitDefEqProofs only[EV,Nat.reduceAdd,Nat.reduceEqDiff,reduceCtorEq,Mv,noC]);refine⟨_,Xs d d rfl rfl,?_⟩;(try refine ev ?_);apply z;clear z K)
   refine A0.tt rfl<|sR A0e ?_;exact aR
  ·(refine sG A0e [] 5 [] λK z=>?_;refine ev ?_;refine⟨by omega,_,E2f M,rfl,?_⟩;(try simp -implicitDefEqProofs only[EV,Nat.reduceAdd,Nat.reduceEqDiff,reduceCtorEq,Mv,noC]);refine⟨_,Xs d n rfl rfl,?_⟩;(try refine As L ?_);apply z;clear z K)
   refine A0.ff rfl (A0.kk (u2 _ _ ?_));clear u2 J
   (refine lV A0e λK z=>?_;refine cl ?_;apply z;clear z K;try simp only[A4,])
   exact⟨(),by rw[E];simp[Um L],sS,by simp[ble,A7]⟩
 intro _ E;rw[De]at E;rw[E,show decide (n∈([]:List Ed))=false by simp]at u1;refine sK λJ u2=>?_
 (refine sQ A0e λK z=>?_;simp -implicitDefEqProofs only[EV,Nat.reduceEqDiff,reduceCtorEq,A3n,B3,A1b];apply z;clear z K)
 refine A0.ss rfl ?_;simp only[A4,Ab,Ae];refine u1 _ _<|sR A0e ?_;exact aR
def A9v{α:Type}[DecidableEq α]:∀{out m:List α},out.Nodup->(∀x,x∈out->x∈m)->out.length<=m.length
 |[],_,_,_=>by simp
 |x::xs,m,h,hs=>by rw[Ui]at h;have I:=hs x (by simp);have J:=A9v (m:=m.erase x) h.2 λy E=>(List.mem_erase_of_ne (by rintro rfl;exact h.1 E)).2 (hs y (by simp[E]));rw[List.length_erase_of_mem I]at J;have:=List.length_pos_of_mem I;rw[C6];omega
structure Wa(l:List Bq)(out:List Ed):Prop where
 nd:out.Nodup
 sub:∀x,x∈out->x∈l.map (·.dst)
def Wa.len{l:List Bq}{out:List Ed}(h:Wa l out):out.length<=l.length:=by
 have:=A9v h.nd h.sub
 rwa [Bn]at this
def Wa.step{l:List Bq}{out:List Ed}(h:Wa l out)(n:Ed){e:Bq}(J:e∈l):Wa l (Qv n out e):=by
 unfold Qv;split
 .rename_i L;refine⟨?_,λx hx=>?_⟩
  .rw[Ap9];exact⟨h.nd,by simp,λa I b E=>by simp only[Aw,Ej,Eh]at E;rintro rfl;exact L.2 (E ▸ I)⟩
  .rcases D2.1 hx with hx|hx
   .exact h.sub x hx
   .simp only[Aw,Ej,Eh]at hx;subst hx;exact B1.2 ⟨e,J,rfl⟩
 .exact h
def G7n(n:Ed)(out:List Ed)(e:Bq):out.length<=(Qv n out e).length:=by unfold Qv;split <;> simp
def D5a(n:Ed):∀(l:List Bq)(out:List Ed),out.length<=(l.foldl (Qv n) out).length
 |[],_=>by simp
 |e::l,out=>by rw[Jp];exact D3 (G7n n out e) (D5a n l _)
abbrev Ms:List Nat:=[0,1,3,4,5,6,7,11,17,45]
def F7v(l:List Bq)(n:Ed)(hl:l.length<=1000000000000):Ac prog 187 [Gx l,V9 n] (.d (.slice (Vb (A2t l n)))):=by
 have hR:∃R,A2t l n=R:=⟨_,rfl⟩;obtain⟨R,hR⟩:=hR;rw[hR];unfold A2t at hR;refine cB func187 ?_;refine sR Ms ?_;refine sR Ms ?_;refine A0.pp 5 3 5 rfl<|kR Ms λK1 u1=>?_;refine A0.bb (A0.loop (X:=Nat × Int × List Ed) (λz=>[(0,Gx l),(3,.box 3 0),(5,.acc 5),(6,A8 z.2.1)]) (λz=>[(3,.cells (noS n)),(5,.rows 3 (Vb z.2.2))])
  (λz=>A3v l n z.1 z.2.1 z.2.2=R/\Wa l z.2.2/\(z.2.1=(z.2.2.length:Int)\/l.length+3<=z.1+z.2.2.length)) (λz=>z.1) (l.length+3,-1,[])
  ⟨hR,⟨by simp,by simp⟩,.inr (by simp)⟩ sS (by simp[ble,A7,Vb]) ?_)
 rintro⟨k,c,out⟩ ⟨W,hO,hF⟩;simp only at W hO hF |-;have a4:=hO.len;by_cases hc:c=(out.length:Int)
 .have a2:R=out:=by
   cases k with
   |zero=>rw[A3v]at W;exact W.symm
   |succ k=>rw[A3v,A9 hc]at W;exact W.symm
  subst a2;refine sK λM u2=>?_
  (refine sQ Ms λK z=>?_;simp -implicitDefEqProofs only[EV,Nat.reduceEqDiff,reduceCtorEq,A3n,hc,A1b,];apply z;clear z K)
  refine A0.ss rfl ?_;simp only[A4,Ab,Ae];refine u1 _ _ ?_;clear u2 M u1 K1;refine sR Ms ?_;exact aR
 have a5:=hF.resolve_left hc;cases k with
 |zero=>omega
 |succ k =>
 rw[A3v,A6 hc]at W;refine sK λM u2=>?_
 (refine sQ Ms λK z=>?_;simp -implicitDefEqProofs only[EV,Nat.reduceEqDiff,reduceCtorEq,A3n,hc,A1b,];apply z;clear z K)
 refine gI u2 ?_;clear u2 M;refine A0.bb ?_
 (refine sQ Ms λK z=>?_;simp -implicitDefEqProofs only[EV,Nat.reduceEqDiff,reduceCtorEq,A3n,A1b];apply z;clear z K)
 refine sR Ms ?_;refine A0.bb (A0.ii l (X:=List Ed) (λj z=>[(0,Gx l),(3,.box 3 0),(5,.acc 5),(6,A8 out.length),(7,A8 j)]) (λj z=>[(3,.cells (noS n)),(5,.rows 3 (Vb z))])
  (λj z=>(l.drop j).foldl (Qv n) z=l.foldl (Qv n) out/\Wa l z) out ⟨rfl,hO⟩ sS sB ?_ ?_)
 rotate_left
 .intro j z e E a0 dp tk a3 hz;obtain⟨hz,O⟩:=hz;have hj:=(B5.1 E).1;have a6:=O.len;have I:=O.step n a0;have U:=I.len;rw[dp,Jp]at hz;have L:=C5i z e.src (by omega);have J:=C5i z e.dst (by omega);refine sK λM u2=>?_
  (refine sQ Ms λK z=>?_;simp -implicitDefEqProofs only[EV,Nat.reduceEqDiff,reduceCtorEq,J5,a3,Q1];apply z;clear z K)
  refine gI u2 ?_;clear u2 M;refine sK λM u2=>A0.bb ?_;have skip:Qv n z e=z->∀sl bx,sle sl [(0,Gx l),(3,.box 3 0),(5,.acc 5),(6,A8 out.length),(7,A8 j)]->ble bx [(3,.cells (noS n)),(5,.rows 3 (Vb z))]->M sl bx:=by
   intro hr sl bx s1 s2;rw[hr]at hz;refine u2 _ _ (A0.ww s1 s2 ?_);clear u2 M
   (refine lV Ms λK z=>?_;refine cl ?_;apply z;clear z K;try simp only[A4,])
   exact⟨z,⟨hz,O⟩,sS,by simp[ble,A7]⟩
  by_cases Z:e.src=n\/e.src∈z
  .by_cases h2:e.dst∈z
   .rw[Bo h2]at J;have hr:Qv n z e=z:=by unfold Qv;rw[A6 (λh=>h.2 h2)]
    by_cases V:e.src=n
    ·(refine sG Ms [] 23 [] λK z=>?_;refine ev ?_;refine⟨by omega,_,Gs E,rfl,?_⟩;(try simp -implicitDefEqProofs only[EV,Nat.reduceAdd,Nat.reduceEqDiff,Nat.reduceLeDiff,reduceCtorEq,Mv,Ff,V]);refine⟨_,Xs n n rfl rfl,?_⟩;(try refine ev ?_);refine⟨by omega,_,Gs E,rfl,?_⟩;(try simp -implicitDefEqProofs only[EV,Nat.reduceAdd,Nat.reduceEqDiff,Nat.reduceLeDiff,reduceCtorEq,Ff,V]);refine⟨_,.inr ⟨_,rfl,J,rfl⟩,?_⟩;(try refine ev ?_);apply z;clear z K)
     refine A0.ff rfl (A0.kk ?_);exact skip hr _ _ sS sB
    .rw[Bo (Z.resolve_left V)]at L
     (refine sG Ms [] 23 [] λK z=>?_;refine ev ?_;refine⟨by omega,_,Gs E,rfl,?_⟩;(try simp -implicitDefEqProofs only[EV,Nat.reduceAdd,Nat.reduceEqDiff,Nat.reduceLeDiff,reduceCtorEq,Mv,Ff]);refine⟨_,Xs e.src n rfl rfl,?_⟩;(try refine As V ?_);refine⟨by omega,_,Gs E,rfl,?_⟩;(try simp -implicitDefEqProofs only[EV,Nat.reduceAdd,Nat.reduceEqDiff,Nat.reduceLeDiff,reduceCtorEq,Ff]);refine⟨_,.inr ⟨_,rfl,L,rfl⟩,?_⟩;(try refine ev ?_);refine⟨by omega,_,Gs E,rfl,?_⟩;(try simp -implicitDefEqProofs only[EV,Nat.reduceAdd,Nat.reduceEqDiff,Nat.reduceLeDiff,reduceCtorEq,Ff]);refine⟨_,.inr ⟨_,rfl,J,rfl⟩,?_⟩;(try refine ev ?_);apply z;clear z K)
     refine A0.ff rfl (A0.kk ?_);exact skip hr _ _ sS sB
   .rw[Ce h2]at J;have hr:Qv n z e=z++[e.dst]:=by unfold Qv;rw[A9 ⟨Z,h2⟩]
    rw[hr]at hz I U;rw[Bz]at U;simp only[C6,Dy]at U;by_cases V:e.src=n
    ·(refine sG Ms [] 23 [] λK z=>?_;refine ev ?_;refine⟨by omega,_,Gs E,rfl,?_⟩;(try simp -implicitDefEqProofs only[EV,Nat.reduceAdd,Nat.reduceEqDiff,Nat.reduceLeDiff,reduceCtorEq,Mv,Ff,V]);refine⟨_,Xs n n rfl rfl,?_⟩;(try refine ev ?_);refine⟨by omega,_,Gs E,rfl,?_⟩;(try simp -implicitDefEqProofs only[EV,Nat.reduceAdd,Nat.reduceEqDiff,Nat.reduceLeDiff,reduceCtorEq,Ff,V]);refine⟨_,.inr ⟨_,rfl,J,rfl⟩,?_⟩;(try refine ev ?_);apply z;clear z K)
     refine A0.tt rfl ?_
     (refine lV Ms λK z=>?_;refine⟨by omega,_,Gs E,rfl,?_⟩;(try simp -implicitDefEqProofs only[EV,Nat.reduceAdd,Nat.reduceEqDiff,Nat.reduceBEq,Nat.reduceLeDiff,Nat.reduceMul,reduceCtorEq,Mv,A3n,Ff,A1b]);refine⟨by simp,by(try simp only[A1b]);unfold lim;omega,?_⟩;apply z;clear z K;try simp only[A4,Ab])
     refine u2 _ _ ?_;clear skip u2 M
     (refine lV Ms λK z=>?_;refine cl ?_;apply z;clear z K;try simp only[A4,])
     exact⟨z++[e.dst],⟨hz,I⟩,sS,by simp[ble,A7,Vb,noC]⟩
    .rw[Bo (Z.resolve_left V)]at L
     (refine sG Ms [] 23 [] λK z=>?_;refine ev ?_;refine⟨by omega,_,Gs E,rfl,?_⟩;(try simp -implicitDefEqProofs only[EV,Nat.reduceAdd,Nat.reduceEqDiff,Nat.reduceLeDiff,reduceCtorEq,Mv,Ff]);refine⟨_,Xs e.src n rfl rfl,?_⟩;(try refine As V ?_);refine⟨by omega,_,Gs E,rfl,?_⟩;(try simp -implicitDefEqProofs only[EV,Nat.reduceAdd,Nat.reduceEqDiff,Nat.reduceLeDiff,reduceCtorEq,Ff]);refine⟨_,.inr ⟨_,rfl,L,rfl⟩,?_⟩;(try refine ev ?_);refine⟨by omega,_,Gs E,rfl,?_⟩;(try simp -implicitDefEqProofs only[EV,Nat.reduceAdd,Nat.reduceEqDiff,Nat.reduceLeDiff,reduceCtorEq,Ff]);refine⟨_,.inr ⟨_,rfl,J,rfl⟩,?_⟩;(try refine ev ?_);apply z;clear z K)
     refine A0.tt rfl ?_
     (refine lV Ms λK z=>?_;refine⟨by omega,_,Gs E,rfl,?_⟩;(try simp -implicitDefEqProofs only[EV,Nat.reduceAdd,Nat.reduceEqDiff,Nat.reduceBEq,Nat.reduceLeDiff,Nat.reduceMul,reduceCtorEq,Mv,A3n,Ff,A1b]);refine⟨by simp,by(try simp only[A1b]);unfold lim;omega,?_⟩;apply z;clear z K;try simp only[A4,Ab])
     refine u2 _ _ ?_;clear skip u2 M
     (refine lV Ms λK z=>?_;refine cl ?_;apply z;clear z K;try simp only[A4,])
     exact⟨z++[e.dst],⟨hz,I⟩,sS,by simp[ble,A7,Vb,noC]⟩
  .have hr:Qv n z e=z:=by unfold Qv;rw[A6 (λh=>Z h.1)]
   have V:¬e.src=n:=λh=>Z (.inl h);rw[Ce (λh=>Z (.inr h))]at L
   (refine sG Ms [] 23 [] λK z=>?_;refine ev ?_;refine⟨by omega,_,Gs E,rfl,?_⟩;(try simp -implicitDefEqProofs only[EV,Nat.reduceAdd,Nat.reduceEqDiff,Nat.reduceLeDiff,reduceCtorEq,Mv,Ff]);refine⟨_,Xs e.src n rfl rfl,?_⟩;(try refine As V ?_);refine⟨by omega,_,Gs E,rfl,?_⟩;(try simp -implicitDefEqProofs only[EV,Nat.reduceAdd,Nat.reduceEqDiff,Nat.reduceLeDiff,reduceCtorEq,Ff]);refine⟨_,.inr ⟨_,rfl,L,rfl⟩,?_⟩;(try refine ev ?_);apply z;clear z K)
   refine A0.ff rfl (A0.kk ?_);exact skip hr _ _ sS sB
 intro z hz;obtain⟨hz,O⟩:=hz;rw[De,Q3]at hz;have a1:=D5a n l out;rw[<-hz]at W a1;refine sK λM u2=>?_
 (refine sQ Ms λK z=>?_;simp -implicitDefEqProofs only[EV,Nat.reduceEqDiff,reduceCtorEq,J5,B3,Q1];apply z;clear z K)
 refine A0.ss rfl ?_;simp only[A4,Ab,Ae];refine⟨(k,(out.length:Int),z),⟨W,O,?_⟩,by simp only;omega,sS,by simp[ble,A7]⟩;simp only;by_cases h:z.length=out.length
 .exact .inl (by omega)
 .exact .inr (by omega)
def G8r(l:List Bq)(a b:Ed)(I:l.length<=1000000000000)(hr:(A2t l a).length<=1000000000000):Ac prog 130 [Gx l,V9 a,V9 b] (Ay (B3z l a b)):=by
 have J:=F7v l a I;have E:=C5i (A2t l a) b hr;unfold B3z;generalize A2t l a=z at*;refine cB func130 ?_;refine sR [0,1,2,4,5,6] ?_
 (refine sG [0,1,2,4,5,6] [] 4 [] λK z=>?_;refine ev ?_;refine cc J ?_;refine cc E ?_;apply z;clear z K)
 exact aR
def D3b(n:Ed)(l:List Bq):∀(m:List Bq)(out:List Ed),(∀e,e∈m->e∈l)->Wa l out->Wa l (m.foldl (Qv n) out)
 |[],_,_,h=>h
 |e::m,out,E,h=>by rw[Jp];exact D3b n l m _ (λx I=>E x (by simp[I])) (h.step n (E e (by simp)))
def D7s(l:List Bq)(n:Ed):∀(k:Nat)(c:Int)(out:List Ed),Wa l out->Wa l (A3v l n k c out)
 |0,_,_,h=>h
 |k+1,c,out,h=>by
  rw[A3v];split
  .exact h
  .exact D7s l n k _ _ (D3b n l l out (λ_ h=>h) h)
def H1x(l:List Bq)(n:Ed):(A2t l n).length<=l.length:=(D7s l n _ _ _ ⟨by simp,by simp⟩).len
def A2v(l:List Bq)(e:Bq):Bool:=e.ins && (decide (e.dst=e.src) ||B3z l e.dst e.src)
abbrev Qx:List Nat:=[0,2,3,4,8,42]
def F5j(l:List Bq)(U:l.length<=1000000000000):Ac prog 71 [Gx l] (Gx (C2g l)):=by
 refine cB func71 ?_;refine sR Qx ?_;refine sR Qx ?_;refine A0.pp 3 7 3 rfl<|kR Qx λZ u1=>?_;refine A0.bb (A0.ii l (X:=Unit) (λj _=>[(0,Gx l),(3,.acc 3),(4,A8 j)]) (λj _=>[(3,.rows 7 (M4 ((l.take j).filter (A2v l))))])
  (λ_ _=>True) () trivial sS (by simp[ble,A7,M4]) ?_ ?_)
 rotate_left
 .intro j _ e J O dp tk M _;have W:=(B5.1 J).1;have V:=G8r l e.dst e.src U (D3 (H1x l e.dst) U);have e2:M4 ((l.take (j+1)).filter (A2v l))=M4 ((l.take j).filter (A2v l))++(if A2v l e=true then[Ff e]else[]):=by
   rw[Yk W,(B5.1 J).2,Ap5];simp only[M4,Gg,Aq8,As1];split <;> simp
  have e3:(M4 ((l.take j).filter (A2v l))).length<=j:=by rw[Q1];exact D3 (Am3 _ _) (by rw[Dx];omega)
  rw[e2];generalize M4 ((l.take j).filter (A2v l))=PR at*;unfold A2v;generalize B3z l e.dst e.src=lb at*;refine sK λL u2=>?_
  (refine sQ Qx λK z=>?_;simp -implicitDefEqProofs only[EV,Nat.reduceEqDiff,reduceCtorEq,J5,M,Q1];apply z;clear z K)
  refine gI u2 ?_;clear u2 L;refine sK λL u2=>A0.bb ?_;cases I:e.ins with
  |false =>
   simp only[C9,I6,Fy,I8]
   (refine sG Qx [] 29 [] λK z=>?_;refine ev ?_;refine⟨by omega,_,Gs J,rfl,?_⟩;(try simp -implicitDefEqProofs only[EV,Nat.reduceEqDiff,reduceCtorEq,Ff,I]);apply z;clear z K)
   refine A0.ff rfl (A0.kk (u2 _ _ ?_));clear u2 L
   (refine lV Qx λK z=>?_;refine cl ?_;apply z;clear z K;try simp only[A4,])
   exact⟨(),trivial,sS,by simp[ble,A7,I]⟩
  |true =>
   by_cases E:e.dst=e.src
   .simp only[Cr,Bo E,Up,Ae]
    (refine sG Qx [] 29 [] λK z=>?_;refine ev ?_;refine⟨by omega,_,Gs J,rfl,?_⟩;(try simp -implicitDefEqProofs only[EV,Nat.reduceAdd,Nat.reduceEqDiff,reduceCtorEq,J5,Mv,Nc,Ff,I,E]);refine⟨by omega,_,Gs J,rfl,?_⟩;(try simp -implicitDefEqProofs only[EV,Nat.reduceAdd,Nat.reduceEqDiff,Nat.reduceLeDiff,reduceCtorEq,J5,Mv,Nc,Ff,I,E]);refine⟨by omega,_,Gs J,rfl,?_⟩;(try simp -implicitDefEqProofs only[EV,Nat.reduceAdd,Nat.reduceEqDiff,Nat.reduceLeDiff,reduceCtorEq,Ff,I,E]);refine⟨_,Xs e.src e.src rfl rfl,?_⟩;(try refine ev ?_);apply z;clear z K)
    refine A0.tt rfl ?_
    (refine lV Qx λK z=>?_;refine⟨by omega,_,Gs J,rfl,?_⟩;(try simp -implicitDefEqProofs only[EV,Nat.reduceAdd,Nat.reduceEqDiff,Nat.reduceBEq,Nat.reduceLeDiff,Nat.reduceMul,reduceCtorEq,J5,Nc,Ff]);refine⟨by simp,by unfold lim;omega,?_⟩;apply z;clear z K;try simp only[A4,Ab])
    refine u2 _ _ ?_;clear u2 L
    (refine lV Qx λK z=>?_;refine cl ?_;apply z;clear z K;try simp only[A4,])
    exact⟨(),trivial,sS,by simp[ble,A7,I,E,Ff]⟩
   .cases lb with
    |true =>
     simp only[Cr,Bool.or_true,Ae]
     (refine sG Qx [] 29 [] λK z=>?_;refine ev ?_;refine⟨by omega,_,Gs J,rfl,?_⟩;(try simp -implicitDefEqProofs only[EV,Nat.reduceAdd,Nat.reduceEqDiff,reduceCtorEq,J5,Mv,Nc,Ff,I]);refine⟨by omega,_,Gs J,rfl,?_⟩;(try simp -implicitDefEqProofs only[EV,Nat.reduceAdd,Nat.reduceEqDiff,Nat.reduceLeDiff,reduceCtorEq,J5,Mv,Nc,Ff,I]);refine⟨by omega,_,Gs J,rfl,?_⟩;(try simp -implicitDefEqProofs only[EV,Nat.reduceAdd,Nat.reduceEqDiff,Nat.reduceLeDiff,reduceCtorEq,Ff,I]);refine⟨_,Xs e.dst e.src rfl rfl,?_⟩;(try refine As E ?_);refine⟨by omega,_,Gs J,rfl,?_⟩;(try simp -implicitDefEqProofs only[EV,Nat.reduceAdd,Nat.reduceEqDiff,Nat.reduceLeDiff,reduceCtorEq,J5,Mv,Nc,Ff,I]);refine⟨by omega,_,Gs J,rfl,?_⟩;(try simp -implicitDefEqProofs only[EV,Nat.reduceAdd,Nat.reduceEqDiff,Nat.reduceLeDiff,reduceCtorEq,Ff,I]);refine cc V ?_;apply z;clear z K)
     refine A0.tt rfl ?_
     (refine lV Qx λK z=>?_;refine⟨by omega,_,Gs J,rfl,?_⟩;(try simp -implicitDefEqProofs only[EV,Nat.reduceAdd,Nat.reduceEqDiff,Nat.reduceBEq,Nat.reduceLeDiff,Nat.reduceMul,reduceCtorEq,J5,Nc,Ff]);refine⟨by simp,by unfold lim;omega,?_⟩;apply z;clear z K;try simp only[A4,Ab])
     refine u2 _ _ ?_;clear u2 L
     (refine lV Qx λK z=>?_;refine cl ?_;apply z;clear z K;try simp only[A4,])
     exact⟨(),trivial,sS,by simp[ble,A7,I,E,Ff]⟩
    |false =>
     simp only[Cr,Ce E,Ar1,I6,Fy,I8]
     (refine sG Qx [] 29 [] λK z=>?_;refine ev ?_;refine⟨by omega,_,Gs J,rfl,?_⟩;(try simp -implicitDefEqProofs only[EV,Nat.reduceAdd,Nat.reduceEqDiff,reduceCtorEq,J5,Mv,Nc,Ff,I]);refine⟨by omega,_,Gs J,rfl,?_⟩;(try simp -implicitDefEqProofs only[EV,Nat.reduceAdd,Nat.reduceEqDiff,Nat.reduceLeDiff,reduceCtorEq,J5,Mv,Nc,Ff,I]);refine⟨by omega,_,Gs J,rfl,?_⟩;(try simp -implicitDefEqProofs only[EV,Nat.reduceAdd,Nat.reduceEqDiff,Nat.reduceLeDiff,reduceCtorEq,Ff,I]);refine⟨_,Xs e.dst e.src rfl rfl,?_⟩;(try refine As E ?_);refine⟨by omega,_,Gs J,rfl,?_⟩;(try simp -implicitDefEqProofs only[EV,Nat.reduceAdd,Nat.reduceEqDiff,Nat.reduceLeDiff,reduceCtorEq,J5,Mv,Nc,Ff,I]);refine⟨by omega,_,Gs J,rfl,?_⟩;(try simp -implicitDefEqProofs only[EV,Nat.reduceAdd,Nat.reduceEqDiff,Nat.reduceLeDiff,reduceCtorEq,Ff,I]);refine cc V ?_;apply z;clear z K)
     refine A0.ff rfl (A0.kk (u2 _ _ ?_));clear u2 L
     (refine lV Qx λK z=>?_;refine cl ?_;apply z;clear z K;try simp only[A4,])
     exact⟨(),trivial,sS,by simp[ble,A7,I,E]⟩
 intro _ _;rw[Dm];refine sK λL u2=>?_
 (refine sQ Qx λK z=>?_;simp -implicitDefEqProofs only[EV,Nat.reduceEqDiff,reduceCtorEq,J5,B3,Q1];apply z;clear z K)
 refine A0.ss rfl ?_;simp only[A4,Ab,Ae];refine u1 _ _ ?_;clear u2 L u1 Z;refine sR Qx ?_;rw[show C2g l=l.filter (A2v l) from rfl];exact aR
def G1b(p:Prog)(h:p.Sm)(I:∀d,d∈p.decls->(Bg d.body).length<=sm)(M:Qb p.decls<=72000):Ac prog 27 [D7 p] (Ay (B8a p)):=by
 have O:=F2x p h I M;have J:(A7f p).length<=1000000000000:=by have:=A9h (g:=Decl.al) E0i p.decls [];have L:Qb p.decls*Qb p.decls<=72000*72000:=Nat.mul_le_mul M M;unfold Qb at*;unfold A7f;simp only[Dy]at this;omega
 have L:=F5j (A7f p) J;unfold B8a;generalize A7f p=l at*;generalize C2g l=x at*;by_cases U:x.length=0
 .have E:((x.length:Nat):Int)=0:=by omega
  rw[Bo U];refine cB func27 ?_;refine sR [0,1,2] ?_
  (refine sV [0,1,2] λK z=>?_;refine cc O ?_;refine⟨_,.inl ⟨_,rfl,L,rfl⟩,?_⟩;(try simp -implicitDefEqProofs only[EV,Nat.reduceEqDiff,reduceCtorEq,E,Q1,J5]);apply z;clear z K)
  exact aR
 .have E:¬((x.length:Nat):Int)=0:=by omega
  rw[Ce U];refine cB func27 ?_;refine sR [0,1,2] ?_
  (refine sV [0,1,2] λK z=>?_;refine cc O ?_;refine⟨_,.inl ⟨_,rfl,L,rfl⟩,?_⟩;(try simp -implicitDefEqProofs only[EV,Nat.reduceEqDiff,reduceCtorEq,E,Q1,J5]);apply z;clear z K)
  exact aR
open Go Go.Proofs Go.Sort Tryz
abbrev Ur(ts:List Ty)(cs:List Ad):SV:=.agg [.d (.slice (Au ts)),.d (.slice (C7 cs))]
def headD(k:Int)(E:A3)(fs:List Param)(ss:List A5):Decl:=⟨k,E,[],fs,ss,[],[],Zf,ex0,0⟩
open Go Go.Proofs Tryz
def Yz(p:Prog):Bool:=decide (p.count<=600) && (p.right && (!(A8o p true).bad && B8a p))
abbrev Rb:List Nat:=[0,1,2,18]
def B5v(p:Prog):Ac prog 9 [D7 p] (A8 (if Yz p=true then 1 else 0)):=by
 have I:=F5v p;unfold Yz;by_cases J:p.count<=600;rotate_left
 .rw[Ce J]at I |-;rw[C9,A6 (by simp)];refine cB func9 ?_;refine sR Rb ?_;refine kC I Rb λL u1=>?_;refine kI u1 ?_;refine sR Rb ?_;exact aR
 rw[Bo J]at I |-;rw[Cr];have E:=Prog.V8 p J;have M:=Prog.Sk p J;have hr:=E8p p E.sm (Prog.Q5 p J);have O:=G7f p E true;have U:=G1b p E.sm (λd V=>by have:=(M.decls d V).body.list;unfold sm;omega) (Prog.B0u p J);generalize p.right=b1 at*;generalize B8a p=b3 at*;generalize A8o p true=r at*;obtain⟨q,W,lg⟩:=r;cases b1 with
 |false =>
  rw[C9,A6 (by simp)];refine cB func9 ?_;refine sR Rb<|sK λL u1=>?_
  (refine sV Rb λK z=>?_;refine cc I ?_;refine cc hr ?_;apply z;clear z K)
  refine kI u1 ?_;refine sR Rb ?_;exact aR
 |true =>
 cases W with
 |true =>
  rw[show(true && (!(Fj.mk q true lg).bad && b3))=false from rfl,A6 (by simp)];refine cB func9 ?_;refine sR Rb<|sK λL u1=>?_
  (refine sV Rb λK z=>?_;refine cc I ?_;refine cc hr ?_;refine cc O ?_;apply z;clear z K)
  refine kI u1 ?_;refine sR Rb ?_;exact aR
 |false =>
 rw[show(true && (!(Fj.mk q false lg).bad && b3))=b3 from rfl];cases b3 with
 |false =>
  rw[A6 (by simp)];refine cB func9 ?_;refine sR Rb<|sK λL u1=>?_
  (refine sV Rb λK z=>?_;refine cc I ?_;refine cc hr ?_;refine cc O ?_;refine cc U ?_;apply z;clear z K)
  refine kI u1 ?_;refine sR Rb ?_;exact aR
 |true =>
  rw[A9 rfl];refine cB func9 ?_;refine sR Rb<|sK λL u1=>?_
  (refine sV Rb λK z=>?_;refine cc I ?_;refine cc hr ?_;refine cc O ?_;refine cc U ?_;apply z;clear z K)
  refine tI ?_;refine sR Rb ?_;exact aR
def t23:Ty:=.mk [84] [] 0
end Go.Abs
