import Derived.Test.YtoajimpjknbnoaaGreatDoorKW13
import Derived.Test.YtoajimpjknbnoaaGreatDoorKW14
import Derived.Test.YtoajimpjknbnoaaGreatDoorKU06
set_option linter.all false
set_option maxHeartbeats 4000000
set_option maxRecDepth 100000
namespace Go.iA
open Go Go.Proofs Tryz
abbrev qc(s:A4):List SV:=[.d (.str s.name),.d (.slice (Ai s.A1)),.d (.slice (Aw s.params)),.d (.str s.result.name),.d (.slice (Au s.result.args)),.d (.int .i64 s.result.pos),.d (.int .i64 s.pos)]
abbrev X7:=[0,1,2,5,6,7,8,13,37]
def fV(s:List I0)(hs:s.length<=10*sm)(l:List Bz)(x:A4)(hf:x.A1.length<=sm)(hp:x.params.length<=sm)(hl:l.length+x.al*x.al<=1000000000000):Ab prog 195 [Hm l,S4 s,Db x] (Hm (Vk s l x)):=by
 have U:∃R1,x.A1.foldl (λl f=>Hg s false f.bound.name 0 l f.bound.args) l=R1:=⟨_,rfl⟩;obtain⟨R1,U⟩:=U;have O:∃R2,x.params.foldl (λl p=>Hg s false p.type.name 0 l p.type.args) R1=R2:=⟨_,rfl⟩;obtain⟨R2,O⟩:=O;have e0:Vk s l x=Hg s false x.result.name 0 R2 x.result.args:=by unfold Vk;rw[U,O]
 rw[e0];unfold A4.al at hl;obtain⟨B,hB⟩:∃B,B=Q8 x.params+fA x.result.args:=⟨_,rfl⟩;obtain⟨C,hC⟩:∃C,C=fA x.result.args:=⟨_,rfl⟩;refine cB func195 ?_;refine sR X7 ?_;refine kR X7 λK1 u1=>?_;refine bA (A0.ii x.A1 (X:=List Bz) (λj z=>[(0,Hm z),(1,S4 s),(5,.box 5 0),(7,A6 j)]) (λj z=>[(5,.cells (qc x))]) (λj z=>(x.A1.drop j).foldl (λl f=>Hg s false f.bound.name 0 l f.bound.args) z=R1/\z.length+(V5 (x.A1.drop j)+B)*(V5 (x.A1.drop j)+B)<=1000000000000) l ⟨U,by rw[vJ,hB];rw[Uf]at hl;exact hl⟩ sS sB ?_ ?_);rotate_left
 .intro j z d hd a0 Z tk V E;obtain⟨E,I⟩:=E;have hj:=(Az.1 hd).1;rw[Z,Mt]at E;have e1:V5 (x.A1.drop j)+B=fA d.bound.args+(V5 (x.A1.drop (j+1))+B):=by rw[Z];simp only[V5,Cj,Jy];omega
  rw[e1]at I;have J:=vC s d.bound.args false d.bound.name 0 z;have h1:=dH I J;have h2:=Ui (fA d.bound.args) (V5 (x.A1.drop (j+1))+B);have W:=uL s hs false d.bound.name d.bound.args z (by omega);generalize Hg s false d.bound.name 0 z d.bound.args=z2 at*;refine Ag V X7 λL u2=>?_;refine gI u2 ?_;refine sK λL u2=>bA ?_;(refine lG X7 [] 16 [] λK z=>?_;refine ev ?_;refine ci (Fm hd) ?_;refine ci (Fm hd) ?_;refine cc W ?_;apply z;try simp only[Aa,Af]);apply u2;refine lT X7 ?_;exact⟨z2,⟨E,h1⟩,sS,by simp[ble,A9]⟩
 intro z E;obtain⟨E,I⟩:=E;rw[Dk]at E I;rw[Xq]at E;subst E;have a1:z.length+(Q8 x.params+C)*(Q8 x.params+C)<=1000000000000:=by
  have:V5 []+B=Q8 x.params+C:=by rw[hB,hC];simp[V5]
  rw[this]at I;exact I
 refine Ag B1 X7 λL u2=>?_;refine sE ?_;apply u1;refine kR X7 λK1 u1=>?_;refine bA (A0.ii x.params (X:=List Bz) (λj z=>[(0,Hm z),(1,S4 s),(5,.box 5 0),(8,A6 j)]) (λj z=>[(5,.cells (qc x))]) (λj z=>(x.params.drop j).foldl (λl p=>Hg s false p.type.name 0 l p.type.args) z=R2/\z.length+(Q8 (x.params.drop j)+C)*(Q8 (x.params.drop j)+C)<=1000000000000) z ⟨O,by rw[vJ];exact a1⟩ sS sB ?_ ?_);rotate_left
 .intro j z d hd a0 Z tk V E;obtain⟨E,I⟩:=E;have hj:=(Az.1 hd).1;rw[Z,Mt]at E;have e1:Q8 (x.params.drop j)+C=fA d.type.args+(Q8 (x.params.drop (j+1))+C):=by rw[Z];simp only[Q8,Cj,Jy];omega
  rw[e1]at I;have J:=vC s d.type.args false d.type.name 0 z;have h1:=dH I J;have h2:=Ui (fA d.type.args) (Q8 (x.params.drop (j+1))+C);have W:=uL s hs false d.type.name d.type.args z (by omega);generalize Hg s false d.type.name 0 z d.type.args=z2 at*;refine Ag V X7 λL u2=>?_;refine gI u2 ?_;refine sK λL u2=>bA ?_;(refine lG X7 [] 16 [] λK z=>?_;refine ev ?_;refine ci (Dt hd) ?_;refine ci (Dt hd) ?_;refine cc W ?_;apply z;try simp only[Aa,Af]);apply u2;refine lT X7 ?_;exact⟨z2,⟨E,h1⟩,sS,by simp[ble,A9]⟩
 intro z E;obtain⟨E,I⟩:=E;rw[Dk]at E I;rw[Xq]at E;subst E;have a2:z.length+fA x.result.args*fA x.result.args<=1000000000000:=by
  have:Q8 []+C=fA x.result.args:=by rw[hC];simp[Q8]
  rw[this]at I;exact I
 have W:=uL s hs false x.result.name x.result.args z a2;generalize Hg s false x.result.name 0 z x.result.args=z2 at*;refine Ag B1 X7 λL u2=>?_;refine sE ?_;apply u1;refine sC W X7 ?_;exact aR
abbrev Lh:=[0,1,3,4,5,6,7,8,9,12,37,87]
def H0v(l:List Bz)(d:Decl)(hd:d.Sm)(a7:(B3 d.body).length<=sm)(hl:l.length+d.al*d.al<=1000000000000):Ab prog 121 [Hm l,Hw d] (Hm (pH l d)):=by
 have ac:=hd.vars.1;have a6:=hd.A1.1;have ad:=hd.sigs.1;have a4:=hd.sig.A1.1;rw[lZ];unfold Decl.al at hl;by_cases hk:d.kind=3
 .rw[A7 hk]at hl |-;have a2:=NQ [] false d.name d.vars (by simp) ac;have hn:=Ss d.sig.A1 a4;rw[show d.sig.A1.map (·.name)=Ad d.sig.A1 from rfl]at hn;have U:=JO [] false d.name d.vars;have L:(Ad d.sig.A1).length<=sm:=by simpa [Ad]using a4
  generalize Mn [] false d.name d.vars=s1 at*;simp only[Ck,Kf]at U;have a5:=NQ s1 true d.sig.name (Ad d.sig.A1) (by unfold sm at*;omega) L;have a0:=JO s1 true d.sig.name (Ad d.sig.A1);generalize Mn s1 true d.sig.name (Ad d.sig.A1)=s at*;have hs:s.length<=10*sm:=by unfold sm at*;omega
  have ab:=Ui d.sig.al (Vn (B3 d.body));have hg:=fV s hs l d.sig a4 hd.sig.params.1 (by omega);have J:=KI s l d.sig;have aa:=pP d.body a7;have V:=dH hl J;generalize Vk s l d.sig=z0 at*;have Z:∃R,(B3 d.body).foldl (exE s) z0=R:=⟨_,rfl⟩;obtain⟨R,Z⟩:=Z;rw[Z];generalize B3 d.body=es at*;refine cB func121 ?_;refine sR Lh ?_;refine Ag hk Lh λK1 u1=>?_;refine eA rfl ?_;refine sG Lh [] 12 [] λK z=>?_;refine ev ?_;refine cc a2 ?_;refine cc hn ?_;refine cc a5 ?_;apply z;refine sC hg Lh ?_;refine sC aa Lh ?_;refine kR Lh λK2 u2=>?_;refine bA (A0.ii es (X:=List Bz) (λj z=>[(0,Hm z),(5,S4 s),(6,.d (.slice (Ed es))),(7,A6 j)]) (λj z=>[]) (λj z=>(es.drop j).foldl (exE s) z=R/\z.length+Vn (es.drop j)*Vn (es.drop j)<=1000000000000) z0 ⟨Z,V⟩ sS (by simp[ble]) ?_ ?_);rotate_left
  .intro j z e he a1 dp tk a3 E;obtain⟨E,V⟩:=E;have hj:=(Az.1 he).1;rw[dp,Mt]at E;have e1:Vn (es.drop j)=VD e+Vn (es.drop (j+1)):=by rw[dp];simp only[Vn,Cj,Jy]
   rw[e1]at V;have h1:=dH V (sd s z e);have h2:=Ui (VD e) (Vn (es.drop (j+1)));have h3:=Ui (fA e.type.args) (fA e.targs);have h4:=vC s e.type.args false e.type.name 0 z;have a':=uL s hs false e.type.name e.type.args z (by unfold VD at*;omega);unfold exE at E h1;unfold VD at*;generalize Hg s false e.type.name 0 z e.type.args=z1 at*;have a9:=uL s hs true e.name e.targs z1 (by omega);generalize Hg s true e.name 0 z1 e.targs=z2 at*;refine Ag a3 Lh λO I=>?_;refine gI I ?_;refine sK λO I=>bA ?_;refine sG Lh [] 14 [] λK z=>?_;refine ev ?_;refine ci (Ey he) ?_;refine ci (Ey he) ?_;refine cc a' ?_;apply z;(refine lG Lh [] 12 [] λK z=>?_;refine ev ?_;refine ci (Ey he) ?_;refine ci (Ey he) ?_;refine cc a9 ?_;apply z;try simp only[Aa,Af]);refine I _ _ ?_;refine lT Lh ?_;exact⟨z2,⟨E,h1⟩,sS,by simp[ble]⟩
  intro z E;obtain⟨E,_⟩:=E;rw[Dk,Xq]at E;subst E;refine Ag B1 Lh λO I=>?_;refine sE ?_;apply u2;refine sR Lh ?_;exact aR
 .rw[A5 hk]at hl |-;have hn:=Ss d.A1 a6;rw[show d.A1.map (·.name)=Ad d.A1 from rfl]at hn;have L:(Ad d.A1).length<=sm:=by simpa [Ad]using a6
  have a2:=NQ [] false d.name (Ad d.A1) (by simp) L;have U:=JO [] false d.name (Ad d.A1);simp only[Ck,Kf]at U;generalize Mn [] false d.name (Ad d.A1)=s at*;have hs:s.length<=10*sm:=by unfold sm at*;omega
  have a8:=gY d;have ab:=Ui (V5 d.A1+Q8 d.fields) (oD d.sigs);have hg:=fV s hs l (AF d) a6 hd.fields.1 (by rw[a8];omega);have J:=KI s l (AF d);rw[a8]at J;have V:=dH hl J;generalize Vk s l (AF d)=z0 at*;unfold AF at hg;have Z:∃R,d.sigs.foldl (sgE s) z0=R:=⟨_,rfl⟩;obtain⟨R,Z⟩:=Z;rw[Z];refine cB func121 ?_;refine sR Lh ?_;refine Ag hk Lh λK1 u1=>?_;refine dA rfl (cA (u1 _ _ ?_));refine sG Lh [] 5 [] λK z=>?_;refine ev ?_;refine cc hn ?_;refine cc a2 ?_;apply z;refine sC hg Lh ?_;refine kR Lh λK2 u2=>?_;refine bA (A0.ii d.sigs (X:=List Bz) (λj z=>[(0,Hm z),(3,.box 3 0),(8,S4 s),(9,A6 j)]) (λj z=>[(3,.cells (Ti d))]) (λj z=>(d.sigs.drop j).foldl (sgE s) z=R/\z.length+oD (d.sigs.drop j)*oD (d.sigs.drop j)<=1000000000000) z0 ⟨Z,V⟩ sS sB ?_ ?_);rotate_left
  .intro j z x hx a1 dp tk a3 E;obtain⟨E,V⟩:=E;have hj:=(Az.1 hx).1;rw[dp,Mt]at E;have e1:oD (d.sigs.drop j)=x.al+oD (d.sigs.drop (j+1)):=by rw[dp];simp only[oD,Cj,Jy]
   rw[e1]at V;have W:=hd.sigs.2 x a1;have hn:=Ss x.A1 W.A1.1;rw[show x.A1.map (·.name)=Ad x.A1 from rfl]at hn;have L:(Ad x.A1).length<=sm:=by simpa [Ad]using W.A1.1
   have a5:=NQ s true x.name (Ad x.A1) hs L;have a0:=JO s true x.name (Ad x.A1);unfold sgE at E;have h1:=dH V (KI (Mn s true x.name (Ad x.A1)) z x);have h2:=Ui x.al (oD (d.sigs.drop (j+1)));have hc:=fV (Mn s true x.name (Ad x.A1)) (by rw[a0];unfold sm at*;omega) z x W.A1.1 W.params.1 (by omega);generalize Mn s true x.name (Ad x.A1)=s2 at*;generalize Vk s2 z x=z2 at*;refine Ag a3 Lh λO I=>?_;refine gI I ?_;refine sK λO I=>bA ?_;(refine lG Lh [] 21 [] λK z=>?_;refine ev ?_;refine ci (Dg hx) ?_;refine ci (Dg hx) ?_;refine cc hn ?_;refine cc a5 ?_;refine ci (Dg hx) ?_;refine cc hc ?_;apply z;try simp only[Aa,Af]);refine I _ _ ?_;refine lT Lh ?_;exact⟨z2,⟨E,h1⟩,sS,by simp[ble,A9]⟩
  intro z E;obtain⟨E,_⟩:=E;rw[Dk,Xq]at E;subst E;refine Ag B1 Lh λO I=>?_;refine sE ?_;apply u2;refine sR Lh ?_;exact aR
abbrev RF:=[0,1,2,3,4,9]
def F6q(p:Prog)(h:p.Sm)(J:∀d,d∈p.decls->(B3 d.body).length<=sm)(Z:Q2 p.decls<=72000):Ab prog 44 [Cs p] (Hm (uH p)):=by
 have a0:=h.decls.1;have O:∃R,p.decls.foldl pH []=R:=⟨_,rfl⟩;obtain⟨R,O⟩:=O;unfold uH;rw[O];have U:([]:List Bz).length+Q2 p.decls*Q2 p.decls<=1000000000000:=by have:Q2 p.decls*Q2 p.decls<=72000*72000:=Nat.mul_le_mul Z Z;simp only[Ck];omega
 refine cB func44 ?_;refine sR RF ?_;refine sR RF ?_;refine kR RF λK1 u1=>?_;refine bA (A0.ii p.decls (X:=List Bz) (λj z=>[(1,.box 1 0),(3,Hm z),(4,A6 j)]) (λj z=>[(1,.cells ((Ah p).map .d))]) (λj z=>(p.decls.drop j).foldl pH z=R/\z.length+Q2 (p.decls.drop j)*Q2 (p.decls.drop j)<=1000000000000) [] ⟨O,U⟩ (by simp[sle,B0,Ae,Mr]) (by simp[ble,A9,Ah]) ?_ ?_);rotate_left
 .intro j z d hd I dp tk V E;obtain⟨E,W⟩:=E;have hj:=(Az.1 hd).1;rw[dp,Mt]at E;have e1:Q2 (p.decls.drop j)=d.al+Q2 (p.decls.drop (j+1)):=by rw[dp];simp only[Q2,Cj,Jy]
  rw[e1]at W;have h1:=dH W (kp z d);have h2:=Ui d.al (Q2 (p.decls.drop (j+1)));have hc:=H0v z d (h.decls.2 d I) (J d I) (by omega);generalize pH z d=z2 at*;refine Ag V RF λL u2=>?_;refine gI u2 ?_;refine sK λL u2=>bA ?_;(refine lV RF λK z=>?_;refine ci (E6 hd) ?_;refine cc hc ?_;apply z;try simp only[Aa,Af]);apply u2;refine lT RF ?_;exact⟨z2,⟨E,h1⟩,sS,by simp[ble,A9,Ah]⟩
 intro z E;obtain⟨E,_⟩:=E;rw[Dk,Xq]at E;subst E;refine Ag B1 RF λL u2=>?_;refine sE ?_;apply u1;refine sR RF ?_;exact aR
abbrev mD:=[0,1,3,4,5,9,17]
def RU(l:List Ep)(n:Ep)(V:l.length<=1000000000000):Ab prog 192 [.d (.slice (X8 l)),W5 n] (Ar (decide (n∈l))):=by
 refine cB func192 ?_;refine sR mD ?_;refine kR mD λZ u1=>?_;refine bA (A0.ii l (X:=Unit) (λj _=>[(0,.d (.slice (X8 l))),(3,.box 3 0),(5,A6 j)]) (λj _=>[(3,.cells (noS n))]) (λj _=>decide (n∈l)=decide (n∈l.drop j)) () rfl sS sB ?_ ?_);rotate_left
 .intro j _ d hd I U tk L E;have W:=(Az.1 hd).1;rw[U]at E;refine Dq L @Xz mD λJ u2=>?_;refine gI u2 ?_;refine sK λJ u2=>bA ?_;by_cases O:d=n
  .subst O;rw[Bn I]
   (refine sG mD [] 5 [] λK z=>?_;refine ev ?_;refine C0 @noC.eq_1 (iY hd) ?_;refine⟨_,Z7 d d rfl rfl,?_⟩;(try refine ev ?_);apply z)
   refine eA rfl<|sR mD ?_;exact aR
  ·(refine sG mD [] 5 [] λK z=>?_;refine ev ?_;refine C0 @noC.eq_1 (iY hd) ?_;refine⟨_,Z7 d n rfl rfl,?_⟩;(try refine Bb O ?_);apply z)
   refine dA rfl (cA (u2 _ _ ?_))
   (refine lV mD λK z=>?_;refine cl ?_;apply z;try simp only[Aa,])
   exact⟨(),by rw[E];simp[Zy O],sS,by simp[ble,A9]⟩
 intro _ E;rw[Dk]at E;rw[E,show decide (n∈([]:List Ep))=false by simp]at u1;refine Dq B1 @Xz mD λJ u2=>?_;refine sE ?_;refine u1 _ _<|sR mD ?_;exact aR
def Zl{α:Type}[DecidableEq α]:∀{out m:List α},out.Nodup->(∀x,x∈out->x∈m)->out.length<=m.length
 |[],_,_,_=>by simp
 |x::xs,m,h,hs=>by rw[Vm]at h;have I:=hs x (by simp);have J:=Zl (m:=m.erase x) h.2 λy E=>(List.mem_erase_of_ne (by rintro rfl;exact h.1 E)).2 (hs y (by simp[E]));rw[List.length_erase_of_mem I]at J;have:=List.length_pos_of_mem I;rw[Bg];omega
structure Xo(l:List Bz)(out:List Ep):Prop where
 nd:out.Nodup
 sub:∀x,x∈out->x∈l.map (·.dst)
def Xo.len{l:List Bz}{out:List Ep}(h:Xo l out):out.length<=l.length:=by
 have:=Zl h.nd h.sub
 rwa [B7]at this
def Xo.step{l:List Bz}{out:List Ep}(h:Xo l out)(n:Ep){e:Bz}(L:e∈l):Xo l (R4 n out e):=by unfold R4;split;rename_i I;refine⟨?_,λx hx=>?_⟩;rw[CJ];exact⟨h.nd,by simp,λa J b E=>by simp only[Ay,Eh,Eo]at E;rintro rfl;exact I.2 (E ▸ J)⟩;rcases Bj.1 hx with hx|hx;exact h.sub x hx;simp only[Ay,Eh,Eo]at hx;subst hx;exact Ap.2 ⟨e,L,rfl⟩;exact h
def G4y(n:Ep)(out:List Ep)(e:Bz):out.length<=(R4 n out e).length:=by unfold R4;split <;> simp
def tY(n:Ep):∀(l:List Bz)(out:List Ep),out.length<=(l.foldl (R4 n) out).length
 |[],_=>by simp
 |e::l,out=>by rw[Mt];exact Cy (G4y n out e) (tY n l _)
abbrev N5:=[0,1,3,4,5,6,7,11,17,45]
def H5e(l:List Bz)(n:Ep)(hl:l.length<=1000000000000):Ab prog 193 [Hm l,W5 n] (.d (.slice (X8 (gF l n)))):=by
 have hR:∃R,gF l n=R:=⟨_,rfl⟩;obtain⟨R,hR⟩:=hR;rw[hR];unfold gF at hR;refine cB func193 ?_;refine sR N5 ?_;refine sR N5 ?_;refine A0.pp 5 3 5 rfl<|kR N5 λK1 u1=>?_;refine bA (A0.loop (X:=Nat × Int × List Ep) (λz=>[(0,Hm l),(3,.box 3 0),(5,.acc 5),(6,A6 z.2.1)]) (λz=>[(3,.cells (noS n)),(5,.rows 3 (X8 z.2.2))]) (λz=>XE l n z.1 z.2.1 z.2.2=R/\Xo l z.2.2/\(z.2.1=(z.2.2.length:Int)\/l.length+3<=z.1+z.2.2.length)) (λz=>z.1) (l.length+3,-1,[]) ⟨hR,⟨by simp,by simp⟩,.inr (by simp)⟩ sS (by simp[ble,A9,X8]) ?_)
 rintro⟨k,c,out⟩ ⟨hI,hO,hF⟩;simp only at hI hO hF |-;have a5:=hO.len;by_cases hc:c=(out.length:Int)
 .have a2:R=out:=by
   cases k with
   |zero=>rw[XE]at hI;exact hI.symm
   |succ k=>rw[XE,A7 hc]at hI;exact hI.symm
  subst a2;refine Dq hc @Xz N5 λU u2=>?_;refine sE ?_;apply u1;refine sR N5 ?_;exact aR
 have a4:=hF.resolve_left hc;cases k with
 |zero=>omega
 |succ k =>
 rw[XE,A5 hc]at hI;refine Dq hc @Xz N5 λU u2=>?_;refine gI u2 ?_;refine bA<|Ak @Xz N5 ?_;refine sR N5 ?_;refine bA (A0.ii l (X:=List Ep) (λj z=>[(0,Hm l),(3,.box 3 0),(5,.acc 5),(6,A6 out.length),(7,A6 j)]) (λj z=>[(3,.cells (noS n)),(5,.rows 3 (X8 z))]) (λj z=>(l.drop j).foldl (R4 n) z=l.foldl (R4 n) out/\Xo l z) out ⟨rfl,hO⟩ sS sB ?_ ?_)
 rotate_left
 .intro j z e E a0 dp tk a1 J;obtain⟨J,Z⟩:=J;have hj:=(Az.1 E).1;have a6:=Z.len;have I:=Z.step n a0;have W:=I.len;rw[dp,Mt]at J;have L:=RU z e.src (by omega);have O:=RU z e.dst (by omega);refine Dq a1 @Mw N5 λU u2=>?_;refine gI u2 ?_;refine sK λU u2=>bA ?_;have skip:R4 n z e=z->∀sl bx,sle sl [(0,Hm l),(3,.box 3 0),(5,.acc 5),(6,A6 out.length),(7,A6 j)]->ble bx [(3,.cells (noS n)),(5,.rows 3 (X8 z))]->U sl bx:=by
   intro hr sl bx s1 s2;rw[hr]at J;refine u2 _ _ (A0.ww s1 s2 ?_)
   (refine lV N5 λK z=>?_;refine cl ?_;apply z;clear z K;try simp only[Aa,])
   exact⟨z,⟨J,Z⟩,sS,by simp[ble,A9]⟩
  by_cases h1:e.src=n\/e.src∈z
  .by_cases h2:e.dst∈z
   .rw[Bn h2]at O;have hr:R4 n z e=z:=by unfold R4;rw[A5 (λh=>h.2 h2)]
    by_cases V:e.src=n
    ·(refine sG N5 [] 23 [] λK z=>?_;refine ev ?_;refine L4 @F5.eq_1 V (He E) ?_;refine⟨_,Z7 n n rfl rfl,?_⟩;(try refine ev ?_);refine L4 @F5.eq_1 V (He E) ?_;refine⟨_,.inr ⟨_,rfl,O,rfl⟩,?_⟩;(try refine ev ?_);apply z;clear z K)
     refine dA rfl (cA ?_);exact skip hr _ _ sS sB
    .rw[Bn (h1.resolve_left V)]at L
     (refine sG N5 [] 23 [] λK z=>?_;refine ev ?_;refine C0 @F5.eq_1 (He E) ?_;refine⟨_,Z7 e.src n rfl rfl,?_⟩;(try refine Bb V ?_);refine C0 @F5.eq_1 (He E) ?_;refine⟨_,.inr ⟨_,rfl,L,rfl⟩,?_⟩;(try refine ev ?_);refine C0 @F5.eq_1 (He E) ?_;refine⟨_,.inr ⟨_,rfl,O,rfl⟩,?_⟩;(try refine ev ?_);apply z;clear z K)
     refine dA rfl (cA ?_);exact skip hr _ _ sS sB
   .rw[Cb h2]at O;have hr:R4 n z e=z++[e.dst]:=by unfold R4;rw[A7 ⟨h1,h2⟩]
    rw[hr]at J I W;rw[B5]at W;simp only[Bg,Ck]at W;by_cases V:e.src=n
    ·(refine sG N5 [] 23 [] λK z=>?_;refine ev ?_;refine L4 @F5.eq_1 V (He E) ?_;refine⟨_,Z7 n n rfl rfl,?_⟩;(try refine ev ?_);refine L4 @F5.eq_1 V (He E) ?_;refine⟨_,.inr ⟨_,rfl,O,rfl⟩,?_⟩;(try refine ev ?_);apply z;clear z K)
     refine eA rfl ?_
     (refine lV N5 λK z=>?_;refine L4 @F5.eq_1 @Xz (He E) ?_;refine⟨by simp,by(try simp only[Xz]);unfold lim;omega,?_⟩;(try refine G1 @F5.eq_1 @Xz ?_);apply z;clear z K;try simp only[Aa,Af])
     apply u2
     (refine lV N5 λK z=>?_;refine cl ?_;apply z;clear z K;try simp only[Aa,])
     exact⟨z++[e.dst],⟨J,I⟩,sS,by simp[ble,A9,X8,noC]⟩
    .rw[Bn (h1.resolve_left V)]at L
     (refine sG N5 [] 23 [] λK z=>?_;refine ev ?_;refine C0 @F5.eq_1 (He E) ?_;refine⟨_,Z7 e.src n rfl rfl,?_⟩;(try refine Bb V ?_);refine C0 @F5.eq_1 (He E) ?_;refine⟨_,.inr ⟨_,rfl,L,rfl⟩,?_⟩;(try refine ev ?_);refine C0 @F5.eq_1 (He E) ?_;refine⟨_,.inr ⟨_,rfl,O,rfl⟩,?_⟩;(try refine ev ?_);apply z;clear z K)
     refine eA rfl ?_
     (refine lV N5 λK z=>?_;refine L4 @F5.eq_1 @Xz (He E) ?_;refine⟨by simp,by(try simp only[Xz]);unfold lim;omega,?_⟩;(try refine G1 @F5.eq_1 @Xz ?_);apply z;clear z K;try simp only[Aa,Af])
     apply u2
     (refine lV N5 λK z=>?_;refine cl ?_;apply z;clear z K;try simp only[Aa,])
     exact⟨z++[e.dst],⟨J,I⟩,sS,by simp[ble,A9,X8,noC]⟩
  .have hr:R4 n z e=z:=by unfold R4;rw[A5 (λh=>h1 h.1)]
   have V:¬e.src=n:=λh=>h1 (.inl h);rw[Cb (λh=>h1 (.inr h))]at L
   (refine sG N5 [] 23 [] λK z=>?_;refine ev ?_;refine C0 @F5.eq_1 (He E) ?_;refine⟨_,Z7 e.src n rfl rfl,?_⟩;(try refine Bb V ?_);refine C0 @F5.eq_1 (He E) ?_;refine⟨_,.inr ⟨_,rfl,L,rfl⟩,?_⟩;(try refine ev ?_);apply z;clear z K)
   refine dA rfl (cA ?_);exact skip hr _ _ sS sB
 intro z J;obtain⟨J,Z⟩:=J;rw[Dk,Xq]at J;have a3:=tY n l out;rw[<-J]at hI a3;refine Dq B1 @Mw N5 λU u2=>?_;refine sE ?_;refine⟨(k,(out.length:Int),z),⟨hI,Z,?_⟩,by simp only;omega,sS,by simp[ble,A9]⟩;simp only;by_cases h:z.length=out.length
 .exact .inl (by omega)
 .exact .inr (by omega)
def tv(l:List Bz)(a b:Ep)(J:l.length<=1000000000000)(hr:(gF l a).length<=1000000000000):Ab prog 120 [Hm l,W5 a,W5 b] (Ar (EL l a b)):=by have I:=H5e l a J;have E:=RU (gF l a) b hr;unfold EL;generalize gF l a=z at*;refine cB func120 ?_;refine sR [0,1,2,4,5,6] ?_;refine sG [0,1,2,4,5,6] [] 4 [] λK z=>?_;refine ev ?_;refine cc I ?_;refine cc E ?_;apply z;exact aR
def xp(n:Ep)(l:List Bz):∀(m:List Bz)(out:List Ep),(∀e,e∈m->e∈l)->Xo l out->Xo l (m.foldl (R4 n) out)
 |[],_,_,h=>h
 |e::m,out,E,h=>by rw[Mt];exact xp n l m _ (λx I=>E x (by simp[I])) (h.step n (E e (by simp)))
def lj(l:List Bz)(n:Ep):∀(k:Nat)(c:Int)(out:List Ep),Xo l out->Xo l (XE l n k c out)
 |0,_,_,h=>h
 |k+1,c,out,h=>by rw[XE];split;exact h;exact lj l n k _ _ (xp n l l out (λ_ h=>h) h)
def G4p(l:List Bz)(n:Ep):(gF l n).length<=l.length:=(lj l n _ _ _ ⟨by simp,by simp⟩).len
def pF(l:List Bz)(e:Bz):Bool:=e.ins && (decide (e.dst=e.src) ||EL l e.dst e.src)
abbrev Qu:=[0,2,3,4,8,42]
def F5i(l:List Bz)(V:l.length<=1000000000000):Ab prog 43 [Hm l] (Hm (IN l)):=by
 refine cB func43 ?_;refine sR Qu ?_;refine sR Qu ?_;refine A0.pp 3 7 3 rfl<|kR Qu λK1 u1=>?_;refine bA (A0.ii l (X:=Unit) (λj _=>[(0,Hm l),(3,.acc 3),(4,A6 j)]) (λj _=>[(3,.rows 7 (Mr ((l.take j).filter (pF l))))]) (λ_ _=>True) () trivial sS (by simp[ble,A9,Mr]) ?_ ?_)
 rotate_left
 .intro j _ e I W dp tk O _;have Z:=(Az.1 I).1;have U:=tv l e.dst e.src V (Cy (G4p l e.dst) V);have e2:Mr ((l.take (j+1)).filter (pF l))=Mr ((l.take j).filter (pF l))++(if pF l e=true then[F5 e]else[]):=by rw[Kj Z,(Az.1 I).2,mN];simp only[Mr,Gy,jN,iN];split <;> simp
  have e3:(Mr ((l.take j).filter (pF l))).length<=j:=by rw[Mw];exact Cy (tN _ _) (by rw[Dh];omega)
  rw[e2];generalize Mr ((l.take j).filter (pF l))=PR at*;unfold pF;generalize EL l e.dst e.src=lb at*;refine Dq O @Mw Qu λL u2=>?_;refine gI u2 ?_;refine sK λL u2=>bA ?_;cases J:e.ins with
  |false =>
   simp only[C6,Iu,Gi,Fv];refine sG Qu [] 29 [] λK z=>?_;refine ev ?_;refine L4 @F5.eq_1 J (He I) ?_;apply z;refine dA rfl (cA (u2 _ _ ?_));(refine lV Qu λK z=>?_;refine cl ?_;apply z;try simp only[Aa,]);exact⟨(),trivial,sS,by simp[ble,A9,J]⟩
  |true =>
   by_cases E:e.dst=e.src;simp only[Ch,Bn E,Uz,Av];refine sG Qu [] 29 [] λK z=>?_;refine ev ?_;refine S5 @F5.eq_1 J E (He I) ?_;refine S5 @F5.eq_1 J E (He I) ?_;refine S5 @F5.eq_1 J E (He I) ?_;refine⟨_,Z7 e.src e.src rfl rfl,?_⟩;(try refine ev ?_);apply z;refine eA rfl ?_;(refine lV Qu λK z=>?_;refine C0 @F5.eq_1 (He I) ?_;refine⟨by simp,by unfold lim;omega,?_⟩;(try refine Bb @F5.eq_1 ?_);apply z;try simp only[Aa,Af]);apply u2;(refine lV Qu λK z=>?_;refine cl ?_;apply z;try simp only[Aa,]);exact⟨(),trivial,sS,by simp[ble,A9,J,E,F5]⟩
   .cases lb with
    |true =>
     simp only[Ch,Bool.or_true,Av];refine sG Qu [] 29 [] λK z=>?_;refine ev ?_;refine L4 @F5.eq_1 J (He I) ?_;refine L4 @F5.eq_1 J (He I) ?_;refine L4 @F5.eq_1 J (He I) ?_;refine⟨_,Z7 e.dst e.src rfl rfl,?_⟩;(try refine Bb E ?_);refine L4 @F5.eq_1 J (He I) ?_;refine L4 @F5.eq_1 J (He I) ?_;refine cc U ?_;apply z;refine eA rfl ?_;(refine lV Qu λK z=>?_;refine C0 @F5.eq_1 (He I) ?_;refine⟨by simp,by unfold lim;omega,?_⟩;(try refine Bb @F5.eq_1 ?_);apply z;try simp only[Aa,Af]);apply u2;(refine lV Qu λK z=>?_;refine cl ?_;apply z;try simp only[Aa,]);exact⟨(),trivial,sS,by simp[ble,A9,J,E,F5]⟩
    |false =>
     simp only[Ch,Cb E,uJ,Iu,Gi,Fv];refine sG Qu [] 29 [] λK z=>?_;refine ev ?_;refine L4 @F5.eq_1 J (He I) ?_;refine L4 @F5.eq_1 J (He I) ?_;refine L4 @F5.eq_1 J (He I) ?_;refine⟨_,Z7 e.dst e.src rfl rfl,?_⟩;(try refine Bb E ?_);refine L4 @F5.eq_1 J (He I) ?_;refine L4 @F5.eq_1 J (He I) ?_;refine cc U ?_;apply z;refine dA rfl (cA (u2 _ _ ?_));(refine lV Qu λK z=>?_;refine cl ?_;apply z;try simp only[Aa,]);exact⟨(),trivial,sS,by simp[ble,A9,J,E]⟩
 intro _ _;rw[Ca];refine Dq B1 @Mw Qu λL u2=>?_;refine sE ?_;apply u1;refine sR Qu ?_;rw[show IN l=l.filter (pF l) from rfl];exact aR
def F7u(p:Prog)(h:p.Sm)(I:∀d,d∈p.decls->(B3 d.body).length<=sm)(L:Q2 p.decls<=72000):Ab prog 18 [Cs p] (Ar (JQ p)):=by
 have U:=F6q p h I L;have J:(uH p).length<=1000000000000:=by have:=ZJ (g:=Decl.al) kp p.decls [];have O:Q2 p.decls*Q2 p.decls<=72000*72000:=Nat.mul_le_mul L L;unfold Q2 at*;unfold uH;simp only[Ck]at this;omega
 have O:=F5i (uH p) J;unfold JQ;generalize uH p=l at*;generalize IN l=x at*;by_cases V:x.length=0
 .have E:((x.length:Nat):Int)=0:=by omega
  rw[Bn V];refine cB func18 ?_;refine sR [0,1,2] ?_;refine sV [0,1,2] λK z=>?_;refine cc U ?_;refine cc2 E @Mw O ?_;apply z;exact aR
 .have E:¬((x.length:Nat):Int)=0:=by omega
  rw[Cb V];refine cB func18 ?_;refine sR [0,1,2] ?_;refine sV [0,1,2] λK z=>?_;refine cc U ?_;refine cc2 E @Mw O ?_;apply z;exact aR
open Go Go.Proofs Go.Sort Tryz
def G8(l:List Param):List Param:=l.map λf=>⟨f.name,Ej f.type,0⟩
def headD(k:Int)(nm:A3)(fs:List Param)(ss:List A4):Decl:=⟨k,nm,[],fs,ss,[],[],Jg,U2,0⟩
def Io(nm:A3)(s:A4):Decl:=⟨3,nm,[],[],[],[114],[],Gb s,.mk 3 [] Qc [] [] 0,0⟩
def AP(M:Be->Option Decl)(p:Prog)(calls:List Be)(x:Ty):List Decl:=if B9 p x 1=true then headD 1 x.mg (G8 (Bc p x)) []::(calls.filterMap M++(C3 p [] x).map (Io x.mg))else[]
abbrev deH(nm:A3)(x:SV):List SV:=[.d (.int .i64 1),.d (.str nm),.d .nil,x,.d .nil,.d (.str []),.d .nil,.d (.str []),.d .nil,.d .nil,.d (.str []),.d .nil,.d (.int .i64 0),.d (.int .i64 0),.d (.int .i64 0),.d (.str []),.d (.str []),.d .nil,.d (.int .i64 0),.d .nil,.d .nil,.d (.int .i64 0),.d (.int .i64 0)]
def G6g{l:List Param}{j:Nat}{d:Param}(h:l[j]?=some d):Aw (G8 (l.take (j+1)))=Aw (G8 (l.take j))++[G9 ⟨d.name,Ej d.type,0⟩]:=by have E:=(Az.1 h).1;rw[Kj E,(Az.1 h).2];simp[G8,Aw]
def F5q{p:Prog}(ht:∀d,d∈p.decls->d.Tl)(hr:p.right=true)(hs:p.Sm){x:Ty}(V:∀u,u∈x.args->u.Ni 12000):∀f,f∈Bc p x->f.type.Ni 360000000:=by intro f I;unfold Bc at I;split at I;rename_i U;obtain⟨d,hd,_⟩:=La (by decide) U;rw[hd,Dx]at I;unfold fieldsD at I;obtain⟨y,L,rfl⟩:=Ap.1 I;have E:=P3 hd;simp only[Prog.right,Bh,Dz]at hr;have h:=hr.1 d E;simp only[Decl.right,Nf,Bh,Dz]at h;have J:=h.2.2.1 y L;have O:y.type.Ni 120000:=⟨QA ((hs.decls.2 d E).fields.2 y L).type J.2,(ht d E).fields y L⟩;exact Ty.Ni.subst (B:=120000) (M:=12000) (by decide) V O;simp at I
open Go Go.Proofs Tryz
abbrev mnS(e:Ex):List SV:=[.d (.int .i64 e.kind),.d (.str e.name),.d (.str e.type.name),.d (.slice (Au e.type.args)),.d (.int .i64 e.type.pos),.d (.slice (Au e.targs)),.d (.slice (Ed e.kids)),.d (.int .i64 e.pos)]
def Ke:Decl:=headD 1 Lb [] []
def xQ(p:Prog):Bool:=decide (p.count<=600) && (p.right && (!(Yd p true).bad && JQ p))
abbrev Sv:=[0,1,2,18]
def G4c(p:Prog):Ab prog 5 [Cs p] (A6 (if xQ p=true then 1 else 0)):=by
 have I:=G0i p;unfold xQ;by_cases J:p.count<=600;rotate_left
 .rw[Cb J]at I |-;rw[C6,A5 (by simp)];refine cB func5 ?_;refine sR Sv ?_;refine kC I Sv λL u1=>?_;refine kI u1 ?_;refine sR Sv ?_;exact aR
 rw[Bn J]at I |-;rw[Ch];have E:=oA p J;have O:=Prog.Ru p J;have hr:=G6m p E.sm (Prog.Py p J);have U:=Om p E true;have V:=F7u p E.sm (λd hd=>by have:=(O.decls d hd).body.list;unfold sm;omega) (Prog.fJ p J);generalize p.right=b1 at*;generalize JQ p=b3 at*;generalize Yd p true=r at*;obtain⟨q,W,lg⟩:=r;cases b1 with
 |false =>
  rw[C6,A5 (by simp)];refine cB func5 ?_;refine sR Sv<|sK λL u1=>?_
  refine sV Sv λK z=>?_;refine cc I ?_;refine cc hr ?_;apply z;refine kI u1 ?_;refine sR Sv ?_;exact aR
 |true =>
 cases W with
 |true =>
  rw[show(true && (!(Fw.mk q true lg).bad && b3))=false from rfl,A5 (by simp)];refine cB func5 ?_;refine sR Sv<|sK λL u1=>?_
  refine sV Sv λK z=>?_;refine cc I ?_;refine cc hr ?_;refine cc U ?_;apply z;refine kI u1 ?_;refine sR Sv ?_;exact aR
 |false =>
 rw[show(true && (!(Fw.mk q false lg).bad && b3))=b3 from rfl];cases b3 with
 |false =>
  rw[A5 (by simp)];refine cB func5 ?_;refine sR Sv<|sK λL u1=>?_
  refine sV Sv λK z=>?_;refine cc I ?_;refine cc hr ?_;refine cc U ?_;refine cc V ?_;apply z;refine kI u1 ?_;refine sR Sv ?_;exact aR
 |true =>
  rw[A7 rfl];refine cB func5 ?_;refine sR Sv<|sK λL u1=>?_
  refine sV Sv λK z=>?_;refine cc I ?_;refine cc hr ?_;refine cc U ?_;refine cc V ?_;apply z;refine tI ?_;refine sR Sv ?_;exact aR
def t23:Ty:=.mk [84] [] 0
def nW(t:Ty):(Ej t).Lm:=.mk _ _ _ (by simp) (by simp)
def WX{l:List A4}{c:Be}{s:A4}(J:∀x,x∈l->x.params.length<=2000)(h:XJ l c=some s):s.Lm:=by unfold XJ at h;split at h;cases h;rename_i O;obtain⟨y,L,E⟩:=EU O;rw[L,Dx]at h;split at h;cases h;refine⟨⟨by simp[D5],by simp[D5]⟩,⟨by have:=J y E;simp only[D5,DH,B7];unfold sm;omega,λf I=>?_⟩,nW _⟩;unfold D5 Ge at I;obtain⟨i,x,_,_,rfl⟩:=mem_mapIdx I;exact nW _;cases h
end Go.iA
