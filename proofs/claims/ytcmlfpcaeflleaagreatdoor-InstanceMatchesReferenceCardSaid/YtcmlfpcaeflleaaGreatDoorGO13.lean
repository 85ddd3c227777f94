/- instance.finder.body -/
import Derived.Test.YtcmlfpcaeflleaaGreatDoorGO04
import Derived.Test.YtcmlfpcaeflleaaGreatDoorGO09
import Derived.Test.YtcmlfpcaeflleaaGreatDoorGW17
set_option linter.all false
set_option maxHeartbeats 4000000
set_option maxRecDepth 100000
namespace Go.Abs
open Go Go.Proofs Tryz
def Y7(p:Prog)(d:Decl)(x:Ty)(c:Ad):List Param:=(H3 p false d).vars.map λv=>⟨v.name,v.type.subst (Ii d) (J9 x c),0⟩
abbrev C4x:List Nat:=[0,1,2,4,5,6,7,9,10,11,12,14,27,39,51,52,53,54,1000000,1000001,1000002,1000003]
def F7t(p:Prog)(h:p.Sm)(b:Int)(s:List Ty × List Ad)(ds:List (A3 × A3))(x:Ty)(L:x.Sm)(c:Ad)(J:c.Sm)(I:Kq p x c.name=none) :
  Bj prog 148 [.box 1000000 0,B6 x,Nj c] (Ci p b s.1 s.2 ds) (.tuple []) (Ci p b s.1 s.2 ds):=by
 have E:=E5i p h x L c.name J.name;rw[I]at E;simp only[Nh,Ky]at E;refine bB func148 ?_;refine sR C4x ?_
 (refine sG C4x [] 13 [⟨[],[],[6],[6]⟩,⟨[],[],[6],[6]⟩,⟨[],[],[6],[6]⟩,⟨[],[],[6],[6]⟩,⟨[],[],[6],[6]⟩,⟨[],[],[6],[6]⟩,⟨[],[],[6],[6]⟩,⟨[],[],[6],[6]⟩,⟨[],[],[6],[6]⟩,⟨[],[],[6],[6]⟩,⟨[],[],[6],[6]⟩,⟨[6],[6],[],[]⟩,⟨[6],[],[],[]⟩] λK z=>?_;refine ev ?_;refine cc E ?_;apply z;clear z K)
 refine kR C4x λM u1=>?_;refine tI ?_;exact A0.ret ⟨_,by rw[results148];rfl,.inr rfl,by simp[ble,A7,]⟩
abbrev Sg:List Nat:=[0,1,2,4,5,6,7,9,10,11,12,14,27,39,51,52,53,54,1000000,1000001,1000002,1000003]
def F7w(p:Prog)(h:p.Sm)(b:Int)(s:List Ty × List Ad)(hs:STx s)(ds:List (A3 × A3))(x:Ty)(hx:x.Sm)(c:Ad)(hc:c.Sm)(d:Decl)(hd:Kq p x c.name=some d)(E:d.Sm)(h2:d.Two)(O:d.sig.params.length+1<=sm)(k3:d.kind=3)
  (ti:Ex->Option Ty)(hn:∀y,y∈Bg (Nw d x c)->B6z p (Y7 p d x c) ti y) :
  Bj prog 148 [.box 1000000 0,B6 x,Nj c] (Ci p b s.1 s.2 ds) (.tuple []) (Ci p b (Lh ti s (Bg (Nw d x c))).1 (Lh ti s (Bg (Nw d x c))).2 ds):=by
 have hM:=E5i p h x hx c.name hc.name;rw[hd]at hM;simp only[E1,An2]at hM;have a1:=G1q p h d E h2 O k3;have hC:=F0w d.vars E.vars.1;have hN:=A4d d.sig.A1 E.sig.A1.1;have J:∀row:List D,row∈C5 (d.sig.A1.map (λx=>x.name))->row.length=1:=λrow hr=>by simp only[C5,B1]at hr;obtain⟨_,_,rfl⟩:=hr;rfl
 have a6:=E.vars.1;have a7:=E.sig.A1.1;have a2:C5 d.vars++C5 (d.sig.A1.map (λx=>x.name))=C5 (Ii d):=by simp[C5,Af,Ii]
 have I:=G4b [x.args,c.targs] (by simp[sm]) (by have h1:=hx.len;have h2:=hc.targs.1;simp;omega);have Z:=D4m (Ii d) (J9 x c) (Zr hx hc) d.body E.body;simp only[As5,List.flatten_nil,I8]at I;have V:∀v,v∈(H3 p false d).vars->Ac prog 98 [B6 v.type,Cy (Ii d),Cd (J9 x c)] (B6 (v.type.subst (Ii d) (J9 x c))):=λv W =>A1v (Ii d) (J9 x c) (Zr hx hc) v.type ((A6p h false E h2 O).vars v W).type
 have a9:=(A6p h false E h2 O).vl;have M:=E1p p b ds (Nw d x c) (Y7 p d x c) ti hn s hs;rw[show Y7 p d x c=(H3 p false d).vars.map λv=>⟨v.name,v.type.subst (Ii d) (J9 x c),0⟩ from rfl]at M;rw[show x.args++c.targs=J9 x c from rfl]at I;rw[show d.body.subst (Ii d) (J9 x c)=Nw d x c from rfl]at Z;generalize Lh ti s (Bg (Nw d x c))=s' at*;generalize Nw d x c=bd at*;generalize(H3 p false d).vars=L at*;generalize(H3 p false d).env=EN at*;generalize J9 x c=ma at*;obtain⟨ts,cs⟩:=s;obtain⟨a0,cs'⟩:=s';simp only at M |-;refine bB func148 ?_;refine sR Sg ?_
 (refine sG Sg [] 13 [⟨[],[],[6],[6]⟩,⟨[],[],[6],[6]⟩,⟨[],[],[6],[6]⟩,⟨[],[],[6],[6]⟩,⟨[],[],[6],[6]⟩,⟨[],[],[6],[6]⟩,⟨[],[],[6],[6]⟩,⟨[],[],[6],[6]⟩,⟨[],[],[6],[6]⟩,⟨[],[],[6],[6]⟩,⟨[],[],[6],[6]⟩,⟨[6],[6],[],[]⟩,⟨[6],[],[],[]⟩] λK z=>?_;refine ev ?_;refine cc hM ?_;apply z;clear z K)
 refine kR Sg λK1 u1=>?_;refine kI u1 ?_;clear u1 K1
 (refine sG Sg [] 10 [] λK z=>?_;refine ev ?_;refine cc a1 ?_;apply z;clear z K)
 (refine sG Sg [39] 6 [⟨[],[],[],[]⟩,⟨[],[],[],[]⟩,⟨[39],[39],[],[]⟩,⟨[],[],[39],[39]⟩,⟨[],[],[39],[39]⟩,⟨[],[],[39],[39]⟩] λK z=>?_;refine ev ?_;refine⟨_,_,_,_,_,rfl,hC,?_⟩;(try refine ev ?_);refine cc hN ?_;refine⟨J,by simp only[Bn];unfold lim sm at*;omega,?_⟩;(try refine ev ?_);apply z;clear z K)
 rw[a2]
 (refine A0.Jq 39 rfl (wk [(0,.box 1000000 0),(4,.box 4 0),(5,.box 5 0),(6,.box 6 0),(9,.d (.slice (B9 L))),(10,.d (.slice (C5 (Ii d))))] [(4,.cells (Jk x)),(5,.cells (U3 c)),(6,.cells (Uo d)),(1000000,.cells (fiC p b 1000001 1000002 1000003)),(1000001,.map (tM ts)),(1000002,.map (cM cs)),(1000003,.map (dM ds))] ?_))
 refine sC I Sg ?_;refine sR Sg ?_;refine A0.pp 12 5 12 rfl<|kR Sg λK1 u1=>?_;refine A0.bb (A0.ii L (X:=Unit) (λj _=>[(0,.box 1000000 0),(6,.box 6 0),(10,.d (.slice (C5 (Ii d)))),(11,.d (.slice (Au ma))),(12,.acc 12),(51,.d (.slice (B9 L))),(52,A8 L.length),(53,A8 j)])
  (λj _=>(6,.cells (Uo d))::(12,.rows 5 (B9 ((L.take j).map λv=>⟨v.name,v.type.subst (Ii d) ma,0⟩)))::Ci p b ts cs ds)
  (λ_ _=>True) () trivial sS (by simp[ble,A7,B9]) ?_ ?_)
 rotate_left
 .intro j _ v W U dp tk a4 _;have a3:=V v U;have a8:((L.take j).map λv=>(⟨v.name,v.type.subst (Ii d) ma,0⟩:Param)).length=j:=by
   have:=(B5.1 W).1;simp only[Bn,Dx];omega
  have a5:j<=sm:=by have:=(B5.1 W).1;omega
  rw[tk,Gg];generalize(L.take j).map (λv=>(⟨v.name,v.type.subst (Ii d) ma,0⟩:Param))=PR at*
  (refine sQ Sg λK z=>?_;simp -implicitDefEqProofs only[EV,Nat.reduceEqDiff,reduceCtorEq,a4,Ci,Kh];apply z;clear z K)
  refine A0.Fk rfl<|sK λK2 u2=>A0.bb ?_
  (refine sV Sg λK z=>?_;refine ci (E9 W) ?_;apply z;clear z K)
  (refine lG Sg [] 10 [] λK z=>?_;refine ev ?_;refine cc a3 ?_;refine⟨by simp,by(try simp only[D9n]);unfold lim sm at*;omega,?_⟩;(try refine ev ?_);apply z;clear z K;try simp only[A4,Ab])
  refine u2 _ _ ?_;clear u2 K2;refine lT Sg ?_;exact⟨(),trivial,sS,by simp[ble,A7,B9,Ha]⟩
 intro _ _;rw[Dm];generalize(L.map λv=>(⟨v.name,v.type.subst (Ii d) ma,0⟩:Param))=PR at*
 (refine sQ Sg λK z=>?_;simp -implicitDefEqProofs only[EV,Nat.reduceEqDiff,reduceCtorEq,B3,Ci,Kh];apply z;clear z K)
 refine A0.stop rfl ?_;simp only[A4,Ab,Ae];refine u1 _ _ ?_;clear u1 K1
 (refine A0.Jq 12 rfl (wk [(0,.box 1000000 0),(6,.box 6 0),(10,.d (.slice (C5 (Ii d)))),(11,.d (.slice (Au ma))),(12,.d (.slice (B9 PR)))] [(6,.cells (Uo d)),(1000000,.cells (fiC p b 1000001 1000002 1000003)),(1000001,.map (tM ts)),(1000002,.map (cM cs)),(1000003,.map (dM ds))] ?_))
 (refine A0.Qs Sg [800076] (by decide +kernel) λK z=>?_;refine ev ?_;refine cc Z ?_;refine⟨_,_,_,Kd id (Ci p b ts cs ds) (Ci p b a0 cs' ds) rfl ⟨rfl,rfl,rfl,rfl,trivial⟩ (by simp) (by simp) rfl rfl M rfl rfl rfl,?_⟩;(try simp -implicitDefEqProofs only[EV,Nat.reduceEqDiff,reduceCtorEq,Gu,Ht]);apply z;clear z K;try simp only[A4,Ab,Ae])
 exact⟨_,by rw[results148];rfl,.inr rfl,by simp[ble,A7,]⟩
end Go.Abs
/- instance.finder.apply -/
namespace Go.Abs
open Go Go.Proofs Tryz
abbrev Xe:List Nat:=[0,1,2,4,5,6,7,9,33,42,44,45,46,47,1000000,1000001,1000002,1000003]
def F5k(p:Prog)(h:p.Sm)(b:Int)(s:List Ty × List Ad)(ds:List (A3 × A3))(x:Ty)(Z:x.Sm)(c:Ad)(hc:c.Sm)(I:Km p x c=none) :
  Bj prog 89 [.box 1000000 0,B6 x,Nj c] (Ci p b s.1 s.2 ds) (.tuple []) (Ci p b s.1 s.2 ds):=by
 have E:=D8m p h [] (by simp) (by simp) x Z c.name;have L:=B5g p h [] (by simp) (by simp) x c.on Z hc.on;simp only[Ar,Hy]at E L;unfold Km at I;unfold Yh at E;by_cases J:Gj (D8 p [] x) c.name<0
 .rw[A9 J]at E;refine bB func89 ?_;refine sR Xe ?_
  (refine sG Xe [] 13 [⟨[],[],[6],[6]⟩,⟨[],[],[6],[6]⟩,⟨[],[],[6],[6]⟩,⟨[],[],[6],[6]⟩,⟨[],[],[6],[6]⟩,⟨[],[],[6],[6]⟩,⟨[],[],[6],[6]⟩,⟨[],[],[6],[6]⟩,⟨[],[],[6],[6]⟩,⟨[],[],[6],[6]⟩,⟨[],[],[6],[6]⟩,⟨[6],[6],[],[]⟩,⟨[6],[],[],[]⟩] λK z=>?_;refine ev ?_;refine cc E ?_;apply z;clear z K)
  refine sK λM u1=>dR Xe 10 ?_;refine tI ?_;exact A0.ret ⟨_,by rw[results89];rfl,.inr rfl,by simp[ble,A7,]⟩
 .rw[A6 J]at E I;obtain⟨g,U⟩:∃g,(D8 p [] x)[(Gj (D8 p [] x) c.name).toNat]?=some g:=by
   unfold Gj at J |-;rcases M9 (λs:A5=>decide (s.name=c.name)) (D8 p [] x)with⟨O,_⟩|⟨j,y,O,h2,_⟩
   .rw[O]at J;exact absurd (by decide) J
   .rw[O];exact⟨y,h2⟩
  rw[U]at E I;simp only[E1]at E I;cases V:Dd p [] x c.on with
  |false =>
   rw[V]at L;refine bB func89 ?_;refine sR Xe ?_
   (refine sG Xe [] 13 [⟨[],[],[6],[6]⟩,⟨[],[],[6],[6]⟩,⟨[],[],[6],[6]⟩,⟨[],[],[6],[6]⟩,⟨[],[],[6],[6]⟩,⟨[],[],[6],[6]⟩,⟨[],[],[6],[6]⟩,⟨[],[],[6],[6]⟩,⟨[],[],[6],[6]⟩,⟨[],[],[6],[6]⟩,⟨[],[],[6],[6]⟩,⟨[6],[6],[],[]⟩,⟨[6],[],[],[]⟩] λK z=>?_;refine ev ?_;refine cc E ?_;apply z;clear z K)
   refine sK λM u1=>?_
   (refine sG Xe [] 10 [] λK z=>?_;refine ev ?_;refine cc L ?_;apply z;clear z K)
   refine tI ?_;exact A0.ret ⟨_,by rw[results89];rfl,.inr rfl,by simp[ble,A7,]⟩
  |true =>
   rw[V]at L;have W:g.A1.length≠c.targs.length:=λW=>by rw[A9 ⟨W,V⟩]at I;cases I
   have hA:=G4x g c.targs W;refine bB func89 ?_;refine sR Xe ?_
   (refine sG Xe [] 13 [⟨[],[],[6],[6]⟩,⟨[],[],[6],[6]⟩,⟨[],[],[6],[6]⟩,⟨[],[],[6],[6]⟩,⟨[],[],[6],[6]⟩,⟨[],[],[6],[6]⟩,⟨[],[],[6],[6]⟩,⟨[],[],[6],[6]⟩,⟨[],[],[6],[6]⟩,⟨[],[],[6],[6]⟩,⟨[],[],[6],[6]⟩,⟨[6],[6],[],[]⟩,⟨[6],[],[],[]⟩] λK z=>?_;refine ev ?_;refine cc E ?_;apply z;clear z K)
   refine sK λM u1=>?_
   (refine sG Xe [] 10 [] λK z=>?_;refine ev ?_;refine cc L ?_;apply z;clear z K)
   refine kI u1 ?_;clear u1 M;refine kC hA Xe λM u1=>?_;refine sR Xe ?_;refine tI ?_;exact A0.ret ⟨_,by rw[results89];rfl,.inr rfl,by simp[ble,A7,]⟩
abbrev Ud:List Nat:=[0,1,2,4,5,6,7,9,33,42,44,45,46,47,1000000,1000001,1000002,1000003]
def G5t(p:Prog)(h:p.Sm)(b:Int)(ts:List Ty)(W:∀t,t∈ts->t.Av.length<=sm)(cs:List Ad)(ds:List (A3 × A3))(x:Ty)(hx:x.Sm)(c:Ad)(hc:c.Sm)(g:A5)(E:Km p x c=some g)
  (O:g.Sm)(hP:∀t,t∈Ks g c->t.Sm/\t.Cb<=sm)(hR:(Lg g c).Sm/\(Lg g c).Cb<=sm)(L:List Ty × List Ad)
  (hB:Bj prog 148 [.box 1000000 0,B6 x,Nj c] (Ci p b (Co Ty.Av ((Ks g c).foldl (Co Ty.Av) ts) (Lg g c)) cs ds) (.tuple []) (Ci p b L.1 L.2 ds)) :
  Bj prog 89 [.box 1000000 0,B6 x,Nj c] (Ci p b ts cs ds) (.tuple []) (Ci p b L.1 L.2 ds):=by
 have I:=D8m p h [] (by simp) (by simp) x hx c.name;have hI:=B5g p h [] (by simp) (by simp) x c.on hx hc.on;simp only[Ar,Hy]at I hI;unfold Km at E;unfold Yh at I;split at E
 .cases E
 rename_i h0;rw[A6 h0]at I;split at E
 .cases E
 rename_i g' a4;split at E
 .rename_i hl;cases E;rw[a4]at I;simp only[E1]at I;rw[hl.2]at hI;have hA:=E8q g O c.targs hl.1 hc.targs.2;have e1:Ks g c=(g.subst (Af g.A1) c.targs).params.map (·.type):=by simp[Ks,A5.subst,Param.subst]
  have e2:Lg g c=(g.subst (Af g.A1) c.targs).result:=rfl;have a6:(g.subst (Af g.A1) c.targs).params.length<=sm:=by simpa [A5.subst]using O.params.1
  rw[e1]at hP;rw[e1,e2]at hB;rw[e2]at hR;generalize g.subst (Af g.A1) c.targs=G at*;have e3:∀l:List Param,(l.map (·.type)).foldl (Co Ty.Av) ts=Ki ts l:=λl=>by rw[List.foldl_map];rfl
  rw[e3]at hB;have V:∀f,f∈G.params->f.type.Sm/\f.type.Cb<=sm:=λf V=>hP _ (B1.2 ⟨f,V,rfl⟩);have J:=C1o p b cs ds [G.result] (by simpa using hR) (by simp[sm]) (Ki ts G.params) (C3y V W);simp only[Jp,Q3,A7z,X2,Be]at J;obtain⟨a1,cs'⟩:=L;simp only at hB |-;refine bB func89 ?_;refine sR Ud ?_
  (refine sG Ud [] 13 [⟨[],[],[6],[6]⟩,⟨[],[],[6],[6]⟩,⟨[],[],[6],[6]⟩,⟨[],[],[6],[6]⟩,⟨[],[],[6],[6]⟩,⟨[],[],[6],[6]⟩,⟨[],[],[6],[6]⟩,⟨[],[],[6],[6]⟩,⟨[],[],[6],[6]⟩,⟨[],[],[6],[6]⟩,⟨[],[],[6],[6]⟩,⟨[6],[6],[],[]⟩,⟨[6],[],[],[]⟩] λK z=>?_;refine ev ?_;refine cc I ?_;apply z;clear z K)
  refine sK λM u1=>?_
  (refine sG Ud [] 10 [] λK z=>?_;refine ev ?_;refine cc hI ?_;apply z;clear z K)
  refine kI u1 ?_;clear u1 M;refine kC hA Ud λM u1=>?_;refine sR Ud ?_;refine kI u1 ?_;clear u1 M;refine kR Ud λM u1=>?_;refine A0.bb (A0.ii G.params (X:=Unit) (λj _=>[(0,.box 1000000 0),(4,.box 4 0),(5,.box 5 0),(6,.box 6 0),(44,.d (.slice (B9 G.params))),(45,A8 G.params.length),(46,A8 j)])
   (λj _=>(4,.cells (Jk x))::(5,.cells (U3 c))::(6,.cells (C7g G))::Ci p b (Ki ts (G.params.take j)) cs ds)
   (λ_ _=>True) () trivial sS (by simp[ble,A7,Ki]) ?_ ?_)
  rotate_left
  .intro j _ y hy U dp tk a5 _;have a2:=C3y (l:=G.params.take j) (λf a0=>V f (Hh a0)) W;have Z:=C1o p b cs ds [y.type] (by simpa using V y U) (by simp[sm]) (Ki ts (G.params.take j)) a2;simp only[Jp,Q3,A7z,X2,Be]at Z;have a3:Ki ts (G.params.take (j+1))=Co Ty.Av (Ki ts (G.params.take j)) y.type:=by rw[tk];simp[Ki,List.foldl_append]
   rw[a3];generalize Ki ts (G.params.take j)=T at*
   (refine sQ Ud λK z=>?_;simp -implicitDefEqProofs only[EV,Nat.reduceEqDiff,reduceCtorEq,a5,Ci,Kh];apply z;clear z K)
   refine A0.Fk rfl<|sK λK2 u2=>A0.bb ?_
   (refine sV Ud λK z=>?_;refine ci (E9 hy) ?_;apply z;clear z K)
   (refine A0.Qs Ud [800054] (by decide +kernel) λK z=>?_;refine ev ?_;refine⟨_,_,_,Kd id (Ci p b T cs ds) (Ci p b (Co Ty.Av T y.type) cs ds) rfl ⟨rfl,rfl,rfl,rfl,trivial⟩ (by simp) (by simp) rfl rfl Z rfl rfl rfl,?_⟩;(try simp -implicitDefEqProofs only[EV,Nat.reduceEqDiff,reduceCtorEq,Ci,Kh,Gu,Ht]);apply z;clear z K;try simp only[A4,Ab])
   refine u2 _ _ ?_;clear u2 K2;refine lT Ud ?_;exact⟨(),trivial,sS,by simp[ble,A7,]⟩
  intro _ _;rw[Dm];generalize Ki ts G.params=T at*
  (refine sQ Ud λK z=>?_;simp -implicitDefEqProofs only[EV,Nat.reduceEqDiff,reduceCtorEq,B3,Ci,Kh];apply z;clear z K)
  refine A0.stop rfl ?_;simp only[A4,Ab,Ae];refine u1 _ _ ?_;clear u1 M
  (refine A0.Ef Ud [800060] (by decide +kernel) λK z=>?_;refine ev ?_;refine⟨_,_,_,Kd id (Ci p b T cs ds) (Ci p b (Co Ty.Av T G.result) cs ds) rfl ⟨rfl,rfl,rfl,rfl,trivial⟩ (by simp) (by simp) rfl rfl J rfl rfl rfl,?_⟩;(try simp -implicitDefEqProofs only[EV,Nat.reduceEqDiff,reduceCtorEq,Ci,Kh,Gu,Ht]);apply z;clear z K)
  (refine A0.Qs Ud [800064] (by decide +kernel) λK z=>?_;refine ev ?_;refine⟨_,_,_,Kd id (Ci p b (Co Ty.Av T G.result) cs ds) (Ci p b a1 cs' ds) rfl ⟨rfl,rfl,rfl,rfl,trivial⟩ (by simp) (by simp) rfl rfl hB rfl rfl rfl,?_⟩;(try simp -implicitDefEqProofs only[EV,Nat.reduceEqDiff,reduceCtorEq,Ci,Kh,Gu,Ht]);apply z;clear z K;try simp only[A4,Ab,Ae])
  exact⟨_,by rw[results89];rfl,.inr rfl,by simp[ble,A7,]⟩
 .cases E
end Go.Abs
/- instance.finder.round: a call of a type -/
namespace Go.Abs
open Go Go.Proofs Tryz
abbrev rwB(p:Prog)(b:Int)(x:Ty)(c:Ad)(ts:List Ty)(cs:List Ad)(ds:List (A3 × A3)):Aa:=(1500001,.cells [.box 1000000 0])::(1500006,.cells (Jk x))::(1500008,.cells (U3 c))::Ci p b ts cs ds
abbrev Zg(p:Prog)(b:Int)(x:Ty)(c:Ad)(more:Bool)(ts:List Ty)(cs:List Ad)(ds:List (A3 × A3)):Aa:=(1500001,.cells [.box 1000000 0])::(1500003,.cells [.d (.bool more)])::(1500006,.cells (Jk x))::(1500008,.cells (U3 c))::Ci p b ts cs ds
def G0p(p:Prog)(b:Int)(x:Ty)(c:Ad)(ts:List Ty)(cs:List Ad)(ds:List (A3 × A3))(E:List Ty)(cs':List Ad)
  (I:Bj prog 89 [.box 1000000 0,B6 x,Nj c] (Ci p b ts cs ds) (.tuple []) (Ci p b E cs' ds)) :
  Bj prog 88 [.box 1500001 0,.box 1500006 0,.box 1500008 0] (rwB p b x c ts cs ds) (.tuple []) (rwB p b x c E cs' ds):=by
 refine bB func88 ?_
 (refine A0.Qs [0,1,2,1000000,1000001,1000002,1000003,1500001,1500006,1500008] [800006] (by decide +kernel) λK z=>?_;simp -implicitDefEqProofs only[EV,Nat.reduceAdd,Nat.reduceEqDiff,Nat.reduceBEq,reduceCtorEq,I3,A7a,Yc,Ci,Kh,];refine⟨_,_,_,Kd id (Ci p b ts cs ds) (Ci p b E cs' ds) rfl ⟨rfl,rfl,rfl,rfl,trivial⟩ (by simp) (by simp) rfl rfl I rfl rfl rfl,?_⟩;(try simp -implicitDefEqProofs only[EV,Nat.reduceEqDiff,reduceCtorEq,Ci,Kh,Gu,Ht]);apply z;clear z K;try simp only[A4,Ab,Ae])
 exact⟨_,by rw[results88];rfl,.inr rfl,⟨rfl,rfl,rfl,rfl,rfl,rfl,rfl,trivial⟩⟩
abbrev C3s:List Nat:=[0,1,2,3,4,17,1000000,1000001,1000002,1000003,1500001,1500003,1500006,1500008]
def F9q(p:Prog)(b:Int)(x:Ty)(c:Ad)(more:Bool)(ts:List Ty)(cs:List Ad)(ds:List (A3 × A3))(a n:A3)(V:a.length<=sm)(U:n.length<=sm)(M:∀k,k∈ds->k.1.length<=sm/\k.2.length<=sm)(W:ts.length<=sm)(h2:cs.length<=sm)
  (h:(a,n)∈ds\/b<(ts.length:Int)+cs.length) :
  Bj prog 83 [.agg [.d (.str a),.d (.str n)],.B0 88 [.box 1500001 0,.box 1500006 0,.box 1500008 0],.box 1500001 0,.box 1500003 0] (Zg p b x c more ts cs ds) (.tuple []) (Zg p b x c more ts cs ds):=by
 have I:Et prog 145 (.agg [.str a,.str n]):=B6o B2e a n (D3 V (by decide)) (D3 U (by decide));have L:=B7w M;have O:=B6j p b ts cs ds W h2;have E:=B9x a n ds;refine bB func83 ?_;refine sR C3s ?_;by_cases J:(a,n)∈ds
 .rw[Bo J]at E
  (refine sG C3s [800015] 5 [] λK z=>?_;simp -implicitDefEqProofs only[EV,Nat.reduceAdd,Nat.reduceEqDiff,reduceCtorEq,Yc,A1i,Xz,E,TKa,TKs,TKk];refine⟨L,I,?_⟩;apply z;clear z K)
  refine A0.ff rfl (A0.kk ?_);exact⟨_,by rw[results83];rfl,.inr rfl,⟨rfl,rfl,rfl,rfl,rfl,rfl,rfl,rfl,trivial⟩⟩
 .rw[Ce J]at E;have Z:=h.resolve_left J;rw[Bo Z]at O
  (refine sG C3s [800015] 5 [] λK z=>?_;simp -implicitDefEqProofs only[EV,Nat.reduceAdd,Nat.reduceEqDiff,Nat.reduceBEq,reduceCtorEq,Yc,A1i,Xz,E,TKa,TKs,TKk,];refine⟨L,I,?_⟩;refine⟨_,_,_,Kd id (Ci p b ts cs ds) (Ci p b ts cs ds) rfl ⟨rfl,rfl,rfl,rfl,trivial⟩ (by simp) (by simp) rfl rfl O rfl rfl rfl,?_⟩;(try simp -implicitDefEqProofs only[EV,Nat.reduceEqDiff,reduceCtorEq,Gu,Ht]);apply z;clear z K)
  refine A0.ff rfl (A0.kk ?_);exact⟨_,by rw[results83];rfl,.inr rfl,⟨rfl,rfl,rfl,rfl,rfl,rfl,rfl,rfl,trivial⟩⟩
abbrev B5y:List Nat:=[0,1,2,3,4,17,1000000,1000001,1000002,1000003,1500001,1500003,1500006,1500008]
def H0s(p:Prog)(b:Int)(x:Ty)(c:Ad)(more:Bool)(ts:List Ty)(cs:List Ad)(ds:List (A3 × A3))(a n:A3)(ha:a.length<=sm)(Z:n.length<=sm)(V:∀k,k∈ds->k.1.length<=sm/\k.2.length<=sm)(h1:ts.length<=sm)(h2:cs.length<=sm)
  (U:(a,n) ∉ds)(hb:¬b<(ts.length:Int)+cs.length)(E:List Ty)(cs':List Ad)
  (hA:Bj prog 89 [.box 1000000 0,B6 x,Nj c] (Ci p b ts cs (Co id ds (a,n))) (.tuple []) (Ci p b E cs' (Co id ds (a,n)))) :
  Bj prog 83 [.agg [.d (.str a),.d (.str n)],.B0 88 [.box 1500001 0,.box 1500006 0,.box 1500008 0],.box 1500001 0,.box 1500003 0] (Zg p b x c more ts cs ds) (.tuple []) (Zg p b x c true E cs' (Co id ds (a,n))):=by
 have I:Et prog 145 (.agg [.str a,.str n]):=B6o B2e a n (D3 ha (by decide)) (D3 Z (by decide));have J:=B7w V;have W:=B6j p b ts cs ds h1 h2;have L:=B9x a n ds;have M:=E5q a n ds;have O:=G0p p b x c ts cs (Co id ds (a,n)) E cs' hA;rw[Ce U]at L;rw[Ce hb]at W;refine bB func83 ?_;refine sR B5y ?_
 (refine sG B5y [800015] 5 [] λK z=>?_;simp -implicitDefEqProofs only[EV,Nat.reduceAdd,Nat.reduceEqDiff,Nat.reduceBEq,reduceCtorEq,Yc,A1i,Xz,L,TKa,TKs,TKk,];refine⟨J,I,?_⟩;refine⟨_,_,_,Kd id (Ci p b ts cs ds) (Ci p b ts cs ds) rfl ⟨rfl,rfl,rfl,rfl,trivial⟩ (by simp) (by simp) rfl rfl W rfl rfl rfl,?_⟩;(try simp -implicitDefEqProofs only[EV,Nat.reduceEqDiff,reduceCtorEq,Gu,Ht]);apply z;clear z K)
 refine A0.tt rfl ?_
 (refine sG B5y [] 5 [] λK z=>?_;simp -implicitDefEqProofs only[EV,Nat.reduceAdd,Nat.reduceEqDiff,reduceCtorEq,Yc,A1i,Xz,M,TKa,TKs,TKk];refine⟨J,I,?_⟩;apply z;clear z K)
 refine sR B5y ?_
 (refine A0.Qs B5y [800024] (by decide +kernel) λK z=>?_;refine ev ?_;refine⟨_,_,_,Kd id (rwB p b x c ts cs (Co id ds (a,n))) (rwB p b x c E cs' (Co id ds (a,n))) rfl ⟨rfl,rfl,rfl,rfl,rfl,rfl,rfl,trivial⟩ (by simp) (by simp) rfl rfl O rfl rfl rfl,?_⟩;(try simp -implicitDefEqProofs only[EV,Nat.reduceEqDiff,reduceCtorEq,Gu,Ht]);apply z;clear z K;try simp only[A4,Ab,Ae])
 exact⟨_,by rw[results83];rfl,.inr rfl,⟨rfl,rfl,rfl,rfl,rfl,rfl,rfl,rfl,trivial⟩⟩
end Go.Abs
/- instance.finder.round in general: the maps' order is any -/
namespace Go.Abs
open Go Go.Proofs Tryz
section
variable {ro:Option Nat} {P:Program} {n:Nat} {Q:Exit->SL->Aa->Prop} {sl:SL} {bx:Aa}
def A0.G5r{id:Nat}{ops:Array Oper}(ks own:List Nat)(i:Nat)(o:Oper)(hi:ops[i]?=some o)(hg:o.guard=none)(L:E6 n ops.toList=true)
  (h:∀K:SL->Aa->Prop,(∀sl' bx',Q .normal sl' bx'->K sl' bx')->F7 P own ops (ops.toList.take i) sl bx λE W=>∃R,OpP P o (Ao E) W R/\∀r J,R r J->F7 P own ops (ops.toList.drop (i+1)) (Ft E o.dst r) J (He ks K)) :
  A0 ro P n (.region id ops false) Q sl bx:=by
 have V:∀l:List Oper,(∀x,x∈l->x∈ops.toList)->E6 n l=true:=λl hl=>by unfold E6 at*;rw[Dr]at*;exact λo ho=>L o (hl o ho)
 obtain⟨a5,U⟩:=Vd.1 hi;have M:o∈ops.toList:=by rw[<-U];simp
 have h1:=h _ λ_ _ h=>h;refine λC S w β a hs=>wpIn_region ?_;have hr:List.range ops.size=List.range' 0 i++List.range' i (ops.size - i - 1+1):=by
  have:=@List.range'_append_1 0 i (ops.size - i - 1+1);rw[Nd]at this;rw[List.range_eq_range',this]
  congr 1
  omega
 rw[hr];refine B6m (Q2 L) (Xf L) (λE W S1 w1 β1 a1 hK I=>?_) i 0 sl bx S w β a (by omega) (Xk _ _ _ (V _ λx hx=>Hh (by simpa using hx)) (by simpa using h1)) hs;obtain⟨R,a4,O⟩:=hK;simp only[Aq7,wpOpsIn,Nt a5,U];have a2:N3 ops E o=some true:=by unfold N3;rw[hg]
 have hw:=B0c (a:=a1) (S:=S1) (w:=w1) (β:=β1) (λt ht=>by obtain⟨j,a6,_,hj⟩:=ht;exact⟨I.slot t,by rw[I.size];exact A8k (Q2 L) hj⟩) a2
 rw[hw];simp only[Ae];refine Oper.B1o (Xf L o M) (a4 C S1 w1 β1 a1 I.inv λx _=>I.Ao x) ?_;rintro a' w' ⟨r,J,v,S',β',h0,rfl,a3,he,hv,hb⟩;have Z:=I.put (pg:=[]) (Q2 L o M) a3 he hv hb;have e1:Fe [] E=E:=by simp[Fe]
 rw[e1]at Z;exact A9a (Q2 L) (Xf L) (λsl' bx' S' w' β' a' hK a0=>⟨_,_,S',β',hK,a0.S9 ks ks⟩) (ops.size - i - 1) (i+1) _ _ _ _ _ _ (by omega) (Xk _ _ _ (V _ λx hx=>X3 hx) (O r J h0)) Z
end
def C3d{n:Nat}{l:List Nat}(E:l.Nodup)(h:∀i,i∈l->i<n):l.length<=n:=by
 have:=A9v (m:=List.range n) E λx I=>by simpa using h x I
 simpa using this
structure FS where
 ts:List Ty
 cs:List Ad
 ds:List (A3 × A3)
def FS.full(b:Int)(S:FS):Prop:=b<(S.ts.length:Int)+S.cs.length
abbrev FS.bx(p:Prog)(b:Int)(S:FS):Aa:=Ci p b S.ts S.cs S.ds
abbrev onT(x:Ty):List SV:=[.agg [.d (.str x.Av),.d (.str [])],.B0 85 [.box 1500001 0,.box 1500006 0],.box 1500001 0,.box 1500003 0]
abbrev onC(x:Ty)(c:Ad):List SV:=[.agg [.d (.str x.Av),.d (.str c.Av)],.B0 88 [.box 1500001 0,.box 1500006 0,.box 1500008 0],.box 1500001 0,.box 1500003 0]
structure D2z(p:Prog)(b:Int)(I:FS->Prop):Prop where
 T:∀S0,I S0->∀x,x∈S0.ts->∀S m,I S->(((x.Av,[])∈S.ds\/S.full b)/\Bj prog 83 (onT x) (Yf p b x m S.ts S.cs S.ds) (.tuple []) (Yf p b x m S.ts S.cs S.ds)) \/
  ∃S',I S'/\S.ds.length<S'.ds.length/\Bj prog 83 (onT x) (Yf p b x m S.ts S.cs S.ds) (.tuple []) (Yf p b x true S'.ts S'.cs S'.ds)
 C:∀S0,I S0->∀x,x∈S0.ts->∀S1,I S1->∀c,c∈S1.cs->∀S m,I S->(((x.Av,c.Av)∈S.ds\/S.full b)/\Bj prog 83 (onC x c) (Zg p b x c m S.ts S.cs S.ds) (.tuple []) (Zg p b x c m S.ts S.cs S.ds)) \/
  ∃S',I S'/\S.ds.length<S'.ds.length/\Bj prog 83 (onC x c) (Zg p b x c m S.ts S.cs S.ds) (.tuple []) (Zg p b x c true S'.ts S'.cs S'.ds)
def FS.done(S:FS)(x:Ty):Prop:=(x.Av,[])∈S.ds/\∀c,c∈S.cs->(x.Av,c.Av)∈S.ds
structure RJ(I:FS->Prop)(S0 S:FS)(m:Bool):Prop where
 i:I S
 t:m=true->S0.ds.length<S.ds.length
 f:m=false->S=S0
def RJ.step{p:Prog}{b:Int}{I:FS->Prop}{S0 S:FS}{m:Bool}{Pr:FS->Prop}{CB:Bool->FS->Prop}(h:RJ I S0 S m)
  (hs:((Pr S\/S.full b)/\CB m S)\/∃S',I S'/\S.ds.length<S'.ds.length/\CB true S'):∃O L,CB L O/\RJ I S0 O L/\(L=false->m=false/\(S0.full b\/Pr S0)):=by
 rcases hs with⟨E,J⟩|⟨S',E,J,U⟩
 .refine⟨S,m,J,h,λM=>⟨M,?_⟩⟩;have:=h.f M;subst this;exact E.symm
 .refine⟨S',true,U,⟨E,λ_=>?_,λh=>by cases h⟩,λh=>by cases h⟩;cases m with
  |true=>have:=h.t rfl;omega
  |false=>have:=h.f rfl;subst this;exact J
def C9g{ts:List Ty}{i:Nat}{kv:D × D}(h:(tM ts)[i]?=some kv):∃x,ts[i]?=some x/\kv=(.str x.Av,.agg [.str x.name,.slice (Au x.args),.int .i64 x.pos]):=by
 unfold tM mK at h;rw[Db]at h;cases E:ts[i]? with
 |none=>rw[E]at h;cases h
 |some x=>rw[E]at h;exact⟨x,rfl,(Pb h).symm⟩
def C6y{cs:List Ad}{i:Nat}{kv:D × D}(h:(cM cs)[i]?=some kv):∃c,cs[i]?=some c/\kv=(.str c.Av,.agg [.str c.on.name,.slice (Au c.on.args),.int .i64 c.on.pos,.str c.name,.slice (Au c.targs)]):=by
 unfold cM mK at h;rw[Db]at h;cases E:cs[i]? with
 |none=>rw[E]at h;cases h
 |some x=>rw[E]at h;exact⟨x,rfl,(Pb h).symm⟩
def E9r(p:Prog)(b:Int)(I:FS->Prop)(S0:FS)(r:SV)(E:Aa):Prop:=∃S m,r=Ay m/\E=S.bx p b/\RJ I S0 S m/\(m=false->S0.full b\/∀x,x∈S0.ts->S0.done x)
abbrev A3s:List Nat:=[0,1,2,3,4,5,6,7,8,15,17,31,33,1000000,1000001,1000002,1000003]
def E9u(p:Prog)(b:Int)(I:FS->Prop)(hR:D2z p b I)(S0:FS)(h0:I S0):Kz prog 33 [.box 1000000 0] (S0.bx p b) (E9r p b I S0):=by
 have ap:=F0b S0.ts;have aj:prog.underlying 79=some (.map 9 25):=by kernel_rfl
 have au:prog.underlying 80=some (.map 9 53):=by kernel_rfl
 (refine Kz.L5 func33 rfl (by decide) (by rw[ntmps33];simp) ?_;rw[ntmps33])
 refine sR A3s ?_;refine sR A3s ?_;refine sR A3s<|sK λK1 u1=>?_
 (refine A0.Ef A3s [800014,800015] (by decide +kernel) λK z=>?_;refine ev ?_;refine⟨_,_,_,Kd (λk=>k - 1) [(1000001,.map (tM S0.ts))] [(1000001,.map (tM S0.ts))] rfl ⟨rfl,trivial⟩ (by simp) (by simp) rfl rfl ap rfl rfl rfl,?_⟩;(try simp -implicitDefEqProofs only[EV,Nat.reduceEqDiff,Gu,Ht]);refine⟨_,_,_,C0w (by decide) rfl aj,?_⟩;(try refine ev ?_);apply z;clear z K)
 refine A0.bb (A0.loop (X:=FS × Bool × List Nat) (λ_=>[(1,.box 1 0),(3,.box 3 0),(4,.B0 83 [.box 1 0,.box 3 0]),(15,.box 15 0)])
  (λd=>(1,.cells [.box 1000000 0])::(3,.cells [.d (.bool d.2.1)])::(15,.iter (tM S0.ts) d.2.2)::Ci p b d.1.ts d.1.cs d.1.ds)
  (λd=>RJ I S0 d.1 d.2.1/\d.2.2.Nodup/\(∀i,i∈d.2.2->i<S0.ts.length)/\(d.2.1=false->S0.full b\/∀i,i∈d.2.2->∀x,S0.ts[i]?=some x->S0.done x))
  (λd=>S0.ts.length - d.2.2.length) (S0,false,[]) ⟨⟨h0,(by simp),λ_=>rfl⟩,(by simp),(by simp),λ_=>.inr (by simp)⟩ sS sB ?_)
 rintro⟨S,m,seen⟩ ⟨hJ,aa,ag,a7⟩;simp only at hJ aa ag a7 |-;refine A0.M0 [1,3,4,15,17,1000000,1000001,1000002,1000003] [] 0 _ rfl rfl (by decide +kernel) λK E=>?_;simp only[Ig];simp -implicitDefEqProofs only[EV,Ci,Kh];refine⟨_,B8z rfl rfl (F8 rfl),?_⟩;rintro r a4 (⟨rfl,rfl,O⟩|⟨i,kv,ac,ak,rfl,rfl⟩)
 .simp only[Ho,Hm,];refine ev ?_;refine E _ _ ?_;clear E K;refine A0.stop rfl ?_;simp only[A4,Ab,Ae];refine u1 _ _ ?_;clear u1 K1;refine sR A3s ?_;refine A0.ret ⟨_,_,_,by rw[results33];rfl,.inr rfl,?_,S,m,rfl,rfl,hJ,λhm=>?_⟩
  .simp[ble,A7,]
  .rcases a7 hm with h|h
   .exact .inl h
   .refine .inr λx hx=>?_;obtain⟨i,hi⟩:=Hz hx;exact h i (O i (by rw[A9o];exact(B5.1 hi).1)) x hi
 obtain⟨x,hx,rfl⟩:=C9g ac;have ae:=Br hx;obtain⟨L,m1,ai,a8,am⟩:=hJ.step (p:=p) (b:=b) (Pr:=λS=>(x.Av,[])∈S.ds) (CB:=λm' S'=>Bj prog 83 (onT x) (Yf p b x m S.ts S.cs S.ds) (.tuple []) (Yf p b x m' S'.ts S'.cs S'.ds)) (hR.T S0 h0 x ae S m hJ.i);have ah:=F1q L.cs;have a1:(i::seen).Nodup:=Ui.2 ⟨ak,aa⟩;have a0:∀j,j∈i::seen->j<S0.ts.length:=λj hj=>(Aw.1 hj).elim (λe=>e ▸ (B5.1 hx).1) (ag j);have a9:=C3d a1 a0;simp only[Ho,Hm,];simp -implicitDefEqProofs only[EV,Nat.reduceEqDiff,Iq,];refine E _ _ ?_;clear E K;refine A0.Fk rfl<|A0.bb ?_
 (refine A0.Ef A3s [800018] (by decide +kernel) λK z=>?_;refine ev ?_;refine⟨_,_,_,B9r rfl (F8 rfl) ac,?_⟩;(try simp -implicitDefEqProofs only[EV,Nat.reduceAdd,Nat.reduceEqDiff,Nat.reduceBEq,Nat.reduceLeDiff,reduceCtorEq,I3,Iq,]);apply z;clear z K)
 refine A0.M0 [1,3,4,5,6,15,1000000,1000001,1000002,1000003] [800025] 2 _ rfl rfl (by decide +kernel) λK E=>?_;simp only[Ia,Ig];refine ev ?_;refine⟨_,(C8s rfl TKu Mx.2.1 TKz D3d rfl rfl rfl).toP,?_⟩;rintro r a4 ⟨rfl,rfl⟩;simp only[Ho,Kr,Hm,];refine ev ?_;refine⟨_,_,_,Kd (λk=>if k<1000000 then k+1500000 else k) ((1,.cells [.box 1000000 0])::(3,.cells [.d (.bool m)])::(6,.cells (Jk x))::Ci p b S.ts S.cs S.ds) ((1,.cells [.box 1000000 0])::(3,.cells [.d (.bool m1)])::(6,.cells (Jk x))::Ci p b L.ts L.cs L.ds) rfl ⟨rfl,rfl,rfl,rfl,rfl,rfl,rfl,trivial⟩ (by simp) (by simp) rfl rfl ai rfl rfl rfl,?_⟩;simp -implicitDefEqProofs only[EV,Nat.reduceEqDiff,reduceCtorEq,Gu,Ht,];refine E _ _ ?_;clear E K
 (refine A0.Ef A3s [800030,800031] (by decide +kernel) λK z=>?_;refine ev ?_;refine⟨_,_,_,Kd (λk=>k - 2) [(1000002,.map (cM L.cs))] [(1000002,.map (cM L.cs))] rfl ⟨rfl,trivial⟩ (by simp) (by simp) rfl rfl ah rfl rfl rfl,?_⟩;(try simp -implicitDefEqProofs only[EV,Nat.reduceEqDiff,Gu,Ht]);refine⟨_,_,_,C0w (by decide) rfl au,?_⟩;(try refine ev ?_);apply z;clear z K)
 refine A0.bb (A0.loop (X:=FS × Bool × List Nat) (λ_=>[(1,.box 1 0),(3,.box 3 0),(4,.B0 83 [.box 1 0,.box 3 0]),(5,.d (.str x.Av)),(6,.box 6 0),(15,.box 15 0),(31,.box 31 0)])
  (λd=>(1,.cells [.box 1000000 0])::(3,.cells [.d (.bool d.2.1)])::(6,.cells (Jk x))::(15,.iter (tM S0.ts) (i::seen))::(31,.iter (cM L.cs) d.2.2)::Ci p b d.1.ts d.1.cs d.1.ds)
  (λd=>RJ I S0 d.1 d.2.1/\d.2.2.Nodup/\(∀i,i∈d.2.2->i<L.cs.length)/\(d.2.1=false->m1=false)/\(d.2.1=false->S0.full b\/∀i,i∈d.2.2->∀c,L.cs[i]?=some c->(x.Av,c.Av)∈S0.ds))
  (λd=>L.cs.length - d.2.2.length) (L,m1,[]) ⟨a8,(by simp),(by simp),(λh=>h),λ_=>.inr (by simp)⟩ sS sB ?_)
 rintro⟨S2,m2,J⟩ ⟨W,Z,a2,a6,M⟩;simp only at W Z a2 M a6 |-;refine A0.M0 [1,3,4,5,6,15,31,33,1000000,1000001,1000002,1000003] [] 0 _ rfl rfl (by decide +kernel) λK E=>?_;simp only[Ig];simp -implicitDefEqProofs only[EV,Ci,Kh];refine⟨_,B8z rfl rfl (F8 rfl),?_⟩;rintro r a4 (⟨rfl,rfl,O⟩|⟨i2,av,a3,af,rfl,rfl⟩)
 .simp only[Ho,Hm,];refine ev ?_;refine E _ _ ?_;clear E K;refine A0.stop rfl ?_;simp only[A4,Ab,Ae];refine⟨(S2,m2,i::seen),⟨W,a1,a0,λhm=>?_⟩,by simp only[C6]at a9 |-;omega,sS,by simp[ble,A7,]⟩;have ab:=a6 hm;have e1:=a8.f ab;obtain⟨aq,hf⟩:=am ab;rcases hf with hf|hf
  .exact .inl hf
  rcases M hm with hd2|hd2
  .exact .inl hd2
  rcases a7 aq with hd|hd
  .exact .inl hd
  refine .inr λj hj y hy=>?_;rcases Aw.1 hj with rfl|hj
  .rw[hx]at hy;cases hy;refine⟨hf,λc hc=>?_⟩;rw[<-e1]at hc;obtain⟨q,hq⟩:=Hz hc;exact hd2 q (O q (by rw[A8j];exact(B5.1 hq).1)) c hq
  .exact hd j hj y hy
 obtain⟨c,hc,rfl⟩:=C6y a3;have ar:=Br hc;obtain⟨S3,m3,ad,ao,a'⟩:=W.step (p:=p) (b:=b) (Pr:=λS=>(x.Av,c.Av)∈S.ds) (CB:=λm' S'=>Bj prog 83 (onC x c) (Zg p b x c m2 S2.ts S2.cs S2.ds) (.tuple []) (Zg p b x c m' S'.ts S'.cs S'.ds)) (hR.C S0 h0 x ae L a8.i c ar S2 m2 W.i);have U:(i2::J).Nodup:=Ui.2 ⟨af,Z⟩;have V:∀j,j∈i2::J->j<L.cs.length:=λj hj=>(Aw.1 hj).elim (λe=>e ▸ (B5.1 hc).1) (a2 j);have a5:=C3d U V;simp only[Ho,Hm,];simp -implicitDefEqProofs only[EV,Nat.reduceEqDiff,Iq,];refine E _ _ ?_;clear E K;refine A0.Fk rfl<|A0.bb ?_
 (refine A0.Ef A3s [800034] (by decide +kernel) λK z=>?_;refine ev ?_;refine⟨_,_,_,B9r rfl (F8 rfl) a3,?_⟩;(try simp -implicitDefEqProofs only[EV,Nat.reduceAdd,Nat.reduceEqDiff,Nat.reduceBEq,Nat.reduceLeDiff,reduceCtorEq,A7a,Iq,]);apply z;clear z K)
 refine A0.G5r [1,3,4,5,6,15,31,1000000,1000001,1000002,1000003] [800042] 3 _ rfl rfl (by decide +kernel) λK E=>?_;simp only[Ia,Ig];refine ev ?_;refine⟨_,(C8s rfl TKu Mx.2.1 TKz D3d rfl rfl rfl).toP,?_⟩;rintro r a4 ⟨rfl,rfl⟩;simp only[Ho,Kr,Hm,];refine ev ?_;refine⟨_,_,_,Kd (λk=>if k<1000000 then k+1500000 else k) ((1,.cells [.box 1000000 0])::(3,.cells [.d (.bool m2)])::(6,.cells (Jk x))::(8,.cells (U3 c))::Ci p b S2.ts S2.cs S2.ds) ((1,.cells [.box 1000000 0])::(3,.cells [.d (.bool m3)])::(6,.cells (Jk x))::(8,.cells (U3 c))::Ci p b S3.ts S3.cs S3.ds) rfl ⟨rfl,rfl,rfl,rfl,rfl,rfl,rfl,rfl,trivial⟩ (by simp) (by simp) rfl rfl ad rfl rfl rfl,?_⟩;simp -implicitDefEqProofs only[EV,Nat.reduceEqDiff,reduceCtorEq,Gu,Ht,];refine E _ _ ?_;clear E K;refine⟨(S3,m3,i2::J),⟨ao,U,V,λh=>a6 (a' h).1,λh=>?_⟩,by simp only[C6]at a5 |-;omega,sS,by simp[ble,A7,]⟩;obtain⟨g1,g2⟩:=a' h;rcases g2 with g2|g2
 .exact .inl g2
 rcases M g1 with g3|g3
 .exact .inl g3
 refine .inr λj hj y hy=>?_;rcases Aw.1 hj with rfl|hj
 .rw[hc]at hy;cases hy;exact g2
 .exact g3 j hj y hy
end Go.Abs
