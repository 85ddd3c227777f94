/- castingsref15.Env -/
import Derived.Test.YtjneockcgjfhaaaGreatDoorKV05
set_option linter.all false
set_option maxHeartbeats 4000000
set_option maxRecDepth 100000
namespace Go.Abs
open Go Go.Proofs Tryz
abbrev Qf:List Nat:=[0,1,2,3,4,5,6,7,8,9,18,39]
def D5q(p:Prog)(h:p.Sm)(d:Decl)(hd:d.Sm):Ch prog 147 [Cq p,Pz d] [] (.acc 8) [(8,.rows 5 (Ax (Hk p d)))]:=by
 have W:=C1x h d.name;have hf:=B8z p d.name;have a1:=Qh (Ey p d.name) W.1;have a4:=hd.vars.1;have a2:∀u,u∈Hj d.vars->u.Sm:=by intro u hu;obtain⟨v,hv,rfl⟩:=Au.1 hu;exact .mk _ _ _ (hd.vars.2 v hv) (by simp) (by simp)
 unfold Hk;generalize hL:Ey p d.name=L at*;refine bB func147 ?_;refine sR Qf ?_;refine A0.zz 2 rfl rfl ?_;refine A0.zz 3 rfl rfl (wk [(2,.Aj (Ai p) 0),(3,.Aj (B3 d) 0),(4,.d .nil)] [] ?_);refine sC hf Qf ?_;refine sR Qf ?_;refine A0.pp 6 3 6 rfl<|kR Qf λK1 u1=>?_;refine A0.bb (A0.ii d.vars (X:=Unit) (λj _=>[(3,.Aj (B3 d) 0),(5,.d (.slice (Ax L))),(6,.acc 6),(7,A7 j)]) (λj _=>[(6,.rows 3 (Ag (Hj (d.vars.take j))))]) (λj _=>True) () trivial (by simp[sle,Av,Af,B3]) (by simp[ble,A8,H3,Hj]) ?_ ?_)
 rotate_left;intro j _ s hs O dp tk Z _;rw[tk];refine Ae Z Qf λE u2=>?_;refine gI u2 ?_;clear u2 E;refine sK λE u2=>A0.bb ?_;(refine lV Qf λK z=>?_;refine ci (J7 hs) ?_;refine⟨by simp,by simp only[Hj,Bc,D0];unfold lim sm at*;omega,?_⟩;(try refine ev ?_);apply z;clear z K;try simp only[A5,A9]);refine u2 _ _ ?_;clear u2 E;refine lT Qf ?_;exact⟨(),trivial,(by simp[sle,Av,Af,B3]),by simp[ble,A8,H3,Hj,Bs,Ty.name,Ty.args,Ty.pos]⟩;intro _ _;rw[Cx];refine Ae B6 Qf λE u2=>?_;refine A0.ss rfl ?_;simp only[A5,A9,Ac];refine u1 _ _ ?_;clear u2 E u1 K1;refine A0.Jh 6 rfl (wk [(3,.Aj (B3 d) 0),(5,.d (.slice (Ax L))),(6,.d (.slice (Ag (Hj d.vars))))] [] ?_);refine sR Qf ?_;refine A0.pp 8 5 8 rfl<|kR Qf λK1 u1=>?_;have V:∀z,z∈L.zip d.vars->Ab prog 49 [Be z.1.bound,Ce (L.map (·.name)),Co (Hj d.vars)] (Be (z.1.bound.subst (Ad L) (Hj d.vars))):=λz J =>Q0 (L.map (·.name)) (Hj d.vars) a2 z.1.bound (W.2 z.1 (Au0 J).1).bound
 refine A0.bb (A0.ii (L.zip d.vars) (X:=Unit) (λj _=>[(3,.Aj (B3 d) 0),(5,.d (.slice (Ax L))),(6,.d (.slice (Ag (Hj d.vars)))),(8,.acc 8),(9,A7 j)]) (λj _=>[(8,.rows 5 (Ax (((L.zip d.vars).take j).map λz=>⟨z.2,z.1.bound.subst (Ad L) (Hj d.vars),z.1.pos⟩)))]) (λj _=>True) () trivial (by simp[sle,Av,Af,B3]) (by simp[ble,A8,Ax]) ?_ ?_);rotate_left
 .intro j _ z J O dp tk Z _;obtain⟨f,v⟩:=z;rw[Am3]at J;have a6:=(Aw.1 J.1).1;have a3:=(Aw.1 J.2).1;have I:(j:Int)<(L.length:Int):=by omega
  have U:(j:Int)<((Hj d.vars).length:Int):=by simp only[Hj,Bc];omega
  have hs:=V (f,v) O;simp only at hs;have a5:(L.zip d.vars).length<=sm:=by rw[Aq4];omega
  rw[tk];refine P4 I U Qf λE u2=>?_;refine gI u2 ?_;clear u2 E;refine sK λE u2=>A0.bb ?_;(refine lG Qf [] 22 [] λK z=>?_;refine ev ?_;refine ci (J7 J.2) ?_;refine ci (Fc J.1) ?_;refine cc a1 ?_;refine cc hs ?_;refine ci (Fc J.1) ?_;refine⟨by simp,by simp only[Bc,D0];unfold lim sm at*;omega,?_⟩;(try refine ev ?_);apply z;clear z K;try simp only[A5,A9]);refine u2 _ _ ?_;clear u2 E;refine lT Qf ?_;exact⟨(),trivial,(by simp[sle,Av,Af,B3]),by simp[ble,A8,Ax,Gs]⟩
 intro _ _;rw[Cx];have a0:∀sl bx,sle sl [(8,.acc 8)]->ble bx [(8,.rows 5 (Ax ((L.zip d.vars).map λz=>⟨z.2,z.1.bound.subst (Ad L) (Hj d.vars),z.1.pos⟩)))]->K1 sl bx:=by intro sl bx h1 h2;refine u1 _ _ (A0.ww h1 h2 ?_);clear u1 K1;refine sR Qf ?_;exact A0.ret ⟨_,by rw[results147];rfl,.inl rfl,by simp[ble,A8]⟩
 refine sK λE u2=>?_;by_cases I:L.length<=d.vars.length
 .have e:(L.zip d.vars).length=L.length:=by rw[Aq4];omega
  rw[e];refine Ap B6 Qf ?_;refine A0.ss rfl ?_;simp only[A5,A9,Ac];exact a0 _ _ sS sB
 .have e:(L.zip d.vars).length=d.vars.length:=by rw[Aq4];omega
  rw[e];have I:(d.vars.length:Int)<(L.length:Int):=by omega
  have U:¬(d.vars.length:Int)<((Hj d.vars).length:Int):=by simp[Hj]
  refine Er I U Qf ?_;refine A0.ss rfl ?_;simp only[A5,A9,Ac];exact a0 _ _ sS sB
def F1x(p:Prog)(h:p.Sm)(d:Decl)(hd:d.Sm):Ab prog 147 [Cq p,Pz d] (.d (.slice (Ax (Hk p d)))):=(D5q p h d hd).pub
abbrev rsC(r:F6):Aq:=.cells [.d (.int .i64 r.pos),.d (.bool r.bad),.d (.bool r.D9)]
abbrev Eb:List Nat:=[0,1,2,4,5,6,7,8,19,34,52,58,69,79]
set_option maxHeartbeats 4000000 in
def H0n(p:Prog)(h:p.Sm)(a4:p.decls.length<=100000)(i:Nat)(d:Decl)(hd:p.decls[i]?=some d)(hk:d.kind=1\/d.kind=2)(a7:∀s,s∈d.sigs->d.A1.length+s.A1.length<=sm) :Ab prog 88 [Cq p,A7 i] (Lv (I9 (B4b p i d))):=by
 have I:=h.decls.2 d (Bm hd);have a1:=A7a p d.name;have U:=D3g p h [] d.A1 (by simpa using I.A1.1) (by simp) I.A1.2;have O:=D5i p h d.A1 I.A1.1 I.A1.2 d.fields I.fields.1 I.fields.2;have a3:=F3q p a4 d.name;have J:=A6z (B0m p d.name) d.name;unfold B4b;refine cB func88 ?_;refine sR Eb ?_
 (refine sV Eb λK z=>?_;refine ci (Ek hd) ?_;apply z;clear z K)
 (refine A0.zz 2 rfl rfl ?_;refine A0.zz 5 rfl rfl (wk [(1,A7 i),(2,.Aj (Ai p) 0),(4,.box 4 0),(5,.Aj (B3 d) 0)] [(4,J1)] ?_))
 by_cases h0:findD d.name p.decls 0=(i:Int);rotate_left
 .rw[A6 h0];refine sK λE u1=>?_
  (refine sV Eb λK z=>?_;refine⟨_,.inl ⟨_,rfl,a1,rfl⟩,?_⟩;(try refine Ah h0 ?_);apply z;clear z K)
  refine tI ?_;refine sR Eb ?_;exact aR
 rw[A3 λhh=>hh h0];rw[h0]at a1;refine kC a1 Eb λE u1=>?_;refine kI u1 ?_;clear u1 E;cases hf:X2 p [] d.A1 with
 |some q =>
  rw[hf]at U;simp only[Lv,I9,M1]at U;refine sC U Eb ?_;refine kR Eb λE u1=>?_;refine A0.ff rfl (A0.kk (u1 _ _ ?_));clear u1 E;refine sK λE u1=>?_;rcases hk with k1|k2;refine Ap k1 Eb ?_;refine tI ?_;refine sR Eb ?_;exact aR
  .have k1:¬d.kind=1:=by omega
   refine Ap k1 Eb ?_;refine kI u1 ?_;clear u1 E;refine sR Eb ?_;refine kR Eb λE u1=>?_;refine A0.bb (A0.loop (X:=Unit) (λ_=>[(1,A7 i),(2,.Aj (Ai p) 0),(4,.box 4 0),(5,.Aj (B3 d) 0),(6,.box 6 0),(8,A7 0)]) (λ_=>[(4,J1),(6,rsC (M1 q))]) (λ_=>True) (λ_=>0) () trivial (by simp[sle,Av,Af,B3,Ai]) (by simp[ble,A8,M1]) ?_);intro _ _;refine sK λK2 u2=>?_;by_cases hl:(0:Int)<(d.sigs.length:Int);refine Ap hl Eb ?_;refine A0.ss rfl ?_;simp only[A5,A9,Ac];refine u1 _ _<|sR Eb ?_;exact aR
   refine Ap hl Eb ?_;refine A0.ss rfl ?_;simp only[A5,A9,Ac];refine u1 _ _<|sR Eb ?_;exact aR
 |none =>
  rw[hf]at U;simp only[Lv,I9,Pq]at U;simp only;refine sC U Eb ?_;by_cases k1:d.kind=1
  .rw[A6 k1];cases hp:Ve p d.A1 [] d.fields with
   |some q =>rw[hp]at O;simp only[Lv,I9,M1]at O;refine Ae k1 Eb λE u1=>?_;refine A0.tt rfl<|sC O Eb ?_;refine dR Eb 10 ?_;refine A0.ff rfl (A0.kk ?_);simp only[A5,];refine u1 _ _ ?_;clear u1 E;refine kR Eb λE u1=>?_;refine tI ?_;refine sR Eb ?_;exact aR
   |none =>
    rw[hp]at O;simp only[Lv,I9,Pq]at O;simp only;by_cases V:d.name∈B0m p d.name
    .rw[A6 V];rw[Cc V]at J;refine Ae k1 Eb λE u1=>?_;refine A0.tt rfl<|sC O Eb ?_
     refine sG Eb [] 10 [] λK z=>?_;refine ev ?_;refine cc a3 ?_;refine cc J ?_;apply z;clear z K;refine A0.tt rfl ?_;(refine lV Eb λK z=>?_;apply z;clear z K;try simp only[A5,]);refine u1 _ _ ?_;clear u1 E;refine kR Eb λE u1=>?_;refine tI ?_;refine sR Eb ?_;exact aR
    .rw[A3 V];rw[Cu V]at J;refine Ae k1 Eb λE u1=>?_;refine A0.tt rfl<|sC O Eb ?_
     refine sG Eb [] 10 [] λK z=>?_;refine ev ?_;refine cc a3 ?_;refine cc J ?_;apply z;clear z K;refine A0.ff rfl (A0.kk ?_);simp only[A5,];refine u1 _ _ ?_;clear u1 E;refine kR Eb λE u1=>?_;refine tI ?_;refine sR Eb ?_;exact aR
  rw[A3 k1];refine Ae k1 Eb λE u1=>?_;refine A0.ff rfl (A0.kk (u1 _ _ ?_));clear u1 E;refine Ae k1 Eb λE u1=>?_;refine kI u1 ?_;clear u1 E;refine sR Eb ?_;refine A0.pp 7 1 7 rfl<|kR Eb λE u1=>?_;have a2:∀(r:F6),r=I9 (Xs p d.A1 [] d.sigs)->∀sl bx,sle sl [(4,.box 4 0),(6,.box 6 0)]->ble bx [(4,J1),(6,rsC r)]->E sl bx:=by intro r hr sl bx h1 h2;refine u1 _ _ (A0.ww h1 h2 ?_);clear u1 E;refine sR Eb ?_;rw[<-hr];exact aR
  refine A0.bb (A0.loop (X:=Nat × Option Int) (λx=>[(1,A7 i),(2,.Aj (Ai p) 0),(4,.box 4 0),(5,.Aj (B3 d) 0),(6,.box 6 0),(7,.acc 7),(8,A7 x.1)]) (λx=>[(4,J1),(6,rsC (I9 x.2)),(7,.rows 1 (Ba ((d.sigs.take x.1).map (·.name))))]) (λx=>x.1<=d.sigs.length/\(match x.2 with|some q=>Xs p d.A1 [] d.sigs=some q|none=>Xs p d.A1 ((d.sigs.take x.1).map (·.name)) (d.sigs.drop x.1)=Xs p d.A1 [] d.sigs)) (λx=>d.sigs.length - x.1) (0,none) ⟨by simp,by simp⟩ (by simp[sle,Av,Af,B3,Ai]) (by simp[ble,A8,Ba,I9,Pq]) ?_);rintro⟨j,o⟩ ⟨hj,L⟩;simp only at hj L;by_cases W:j<d.sigs.length
  .have a0:(j:Int)<(d.sigs.length:Int):=by omega
   cases o with
   |some q =>simp only at L;refine Ae a0 Eb λK2 u2=>?_;refine A0.ss rfl ?_;simp only[A5,A9,Ac];exact a2 (M1 q) (by rw[L];rfl) _ _ sS (by simp[ble,A8,I9])
   |none =>
    simp only at L;have hs:d.sigs[j]?=some d.sigs[j]:=Br W;have Z:d.sigs[j]∈d.sigs:=Gi W;have dp:d.sigs.drop j=d.sigs[j]::d.sigs.drop (j+1):=Gv W;have tk:d.sigs.take (j+1)=d.sigs.take j++[d.sigs[j]]:=La W;have a6:=C9f p h d.A1 d.sigs[j] (a7 _ Z) I.A1.2 (I.sigs.2 _ Z);have a8:=I.sigs.1;generalize d.sigs[j]=s at*;rw[dp,Xs]at L;have J:=A6z ((d.sigs.take j).map (·.name)) s.name;refine Ae a0 Eb λK2 u2=>?_;refine gI u2 ?_;clear u2 K2;refine sK λK2 u2=>A0.bb<|sK λK3 u3=>?_;by_cases V:s.name∈(d.sigs.take j).map (·.name)
    rw[A6 V]at L;rw[<-L];rw[Cc V]at J;refine sV Eb λK z=>?_;refine ci (De hs) ?_;refine⟨_,.inr ⟨_,rfl,J,rfl⟩,?_⟩;(try refine ev ?_);apply z;clear z K;refine tI ?_;refine sV Eb λK z=>?_;refine ci (De hs) ?_;apply z;clear z K;exact aR;rw[A3 V]at L;rw[Cu V]at J;refine sV Eb λK z=>?_;refine ci (De hs) ?_;refine⟨_,.inr ⟨_,rfl,J,rfl⟩,?_⟩;(try refine ev ?_);apply z;clear z K;refine kI u3 ?_;clear u3 K3;refine sV Eb λK z=>?_;refine ci (De hs) ?_;refine⟨by simp,by simp only[Bc,D0];unfold lim sm at*;omega,?_⟩;(try refine ev ?_);apply z;clear z K;(refine lG Eb [] 8 [] λK z=>?_;refine ev ?_;refine ci (De hs) ?_;refine cc a6 ?_;apply z;clear z K;try simp only[A5,A9]);refine u2 _ _ ?_;clear u2 K2;refine lT Eb ?_;refine⟨(j+1,Nx p d.A1 s),⟨by omega,?_⟩,by simp only;omega,(by simp[sle,Av,Af,B3,Ai]),?_⟩
    .simp only;cases hq:Nx p d.A1 s with
     |some q=>rw[hq]at L;exact L.symm
     |none=>rw[hq]at L;simp only;rw[tk,Hc];exact L
    simp only;rw[tk,Hc];cases Nx p d.A1 s <;> simp[ble,A8,Ba,I9,Pq,M1]
  .have a5:j=d.sigs.length:=by omega
   subst a5;refine sK λK2 u2=>?_;cases o with
   |some q =>simp only at L;refine Ap B6 Eb ?_;refine A0.ss rfl ?_;simp only[A5,A9,Ac];exact a2 (M1 q) (by rw[L];rfl) _ _ sS (by simp[ble,A8,I9])
   |none =>simp only at L;rw[D3,Xs]at L;refine Ap B6 Eb ?_;refine A0.ss rfl ?_;simp only[A5,A9,Ac];exact a2 Pq (by rw[<-L];rfl) _ _ sS (by simp[ble,A8,I9])
def E3k{d:Decl}(hd:d.Sm):∀u,u∈Hj d.vars->u.Sm:=by intro u I;obtain⟨v,E,rfl⟩:=Au.1 I;exact .mk _ _ _ (hd.vars.2 v E) (by simp) (by simp)
def D7s{p:Prog}(h:p.Sm){d:Decl}(hd:d.Sm):∀f,f∈Hk p d->f.Sm:=by intro f I;unfold Hk at I;obtain⟨⟨l,v⟩,E,rfl⟩:=Au.1 I;have J:=(C1x h d.name).2 l (Au0 E).1;exact⟨hd.vars.2 v (Au0 E).2,J.bound.subst (E3k hd)⟩
def C1j(p:Prog)(d:Decl):(Hk p d).length<=d.vars.length:=by unfold Hk;rw[Bc,Aq4];omega
abbrev Ht:List Nat:=[0,1,2,4,5,6,7,8,9,33,39,61,71,90,102]
set_option maxHeartbeats 4000000 in
def H1j(p:Prog)(h:p.Sm)(i:Nat)(d:Decl)(hd:p.decls[i]?=some d)(ad:d.vars.length+d.sig.A1.length<=sm) :Ab prog 89 [Cq p,A7 i] (Lv (I9 (B3j p i d))):=by
 have J:=h.decls.2 d (Bm hd);have a5:=A8z p d.name;have a8:=B8z p d.name;have a0:=D6p p h.decls.1 d.name d.sig.name;have a7:=F1x p h d J;have ae:=C1j p d;have a':=C9f p h (Hk p d) d.sig (by omega) (D7s h J) J.sig;have ab:=J.vars.1;unfold B3j;generalize Hk p d=ev at*;generalize Ey p d.name=L at*;refine cB func89 ?_;refine sR Ht ?_;refine sV Ht λK z=>?_;refine ci (Ek hd) ?_;apply z;clear z K;refine sR Ht ?_;refine A0.zz 2 rfl rfl ?_;refine A0.zz 5 rfl rfl (wk [(1,A7 i),(2,.Aj (Ai p) 0),(4,.box 4 0),(5,.Aj (B3 d) 0),(6,.box 6 0)] [(4,J1),(6,rsC (M1 d.pos))] ?_);refine sK λZ u1=>?_;by_cases a1:kindOf p d.name=1;rotate_left;rw[A6 (.inl a1)];refine sG Ht [] 14 [] λK z=>?_;refine Go.Abs.ev ?_;refine⟨_,.inl ⟨_,rfl,a5,rfl⟩,?_⟩;(try refine Go.Abs.Ah a1 ?_);apply z;clear z K;refine tI ?_;refine sR Ht ?_;exact aR;by_cases a2:d.vars.length=L.length;rotate_left
 .rw[A6 (.inr a2)];have V:¬(d.vars.length:Int)=(L.length:Int):=by omega
  refine sG Ht [] 14 [] λK z=>?_;refine Go.Abs.ev ?_;refine⟨_,.inl ⟨_,rfl,a5,rfl⟩,?_⟩;(try refine Go.Abs.Ah a1 ?_);refine⟨_,.inl ⟨_,rfl,a8,rfl⟩,?_⟩;(try refine Go.Abs.Ah V ?_);apply z;clear z K;refine tI ?_;refine sR Ht ?_;exact aR
 rw[A3 (by rintro(hh|hh);exact hh a1;exact hh a2)]at u1 |-;have V:(d.vars.length:Int)=(L.length:Int):=by omega
 refine sG Ht [] 14 [] λK z=>?_;refine Go.Abs.ev ?_;refine⟨_,.inl ⟨_,rfl,a5,rfl⟩,?_⟩;(try refine Go.Abs.Du a1 V ?_);refine cc a8 ?_;apply z;clear z K;refine kI u1 ?_;clear u1 Z a1 a2 V;refine kR Ht λZ u1=>?_;refine A0.bb (A0.ii d.vars (X:=Unit) (λj _=>[(1,A7 i),(2,.Aj (Ai p) 0),(4,.box 4 0),(5,.Aj (B3 d) 0),(6,.box 6 0),(7,A7 j)]) (λ_ _=>[(4,J1),(6,rsC (M1 d.pos))]) (λj _=>A0a p (d.vars.take j) (d.vars.drop j)=A0a p [] d.vars) () (by simp) (by simp[sle,Av,Af,B3,Ai]) (by simp[ble,A8,M1]) ?_ ?_);rotate_left
 .intro j _ s hs aa dp tk U E;rw[dp,A0a]at E;have a4:=A8z p s;have O:Ab prog 144 [.d (.slice ((Ba d.vars).take j)),B4 s] (B1 (decide (s∈d.vars.take j))):=by rw[Ba,<-List.map_take];exact A6z (d.vars.take j) s
  refine Ae U Ht λI u2=>?_;refine gI u2 ?_;clear u2 I;refine sK λI u2=>A0.bb ?_;by_cases b1:kindOf p s=0;rotate_left;rw[Cc (.inl b1),Vn]at E;rw[A6 E.symm];refine sG Ht [] 18 [] λK z=>?_;refine Go.Abs.ev ?_;refine ci (J7 hs) ?_;refine⟨_,.inl ⟨_,rfl,a4,rfl⟩,?_⟩;(try refine Go.Abs.Ah b1 ?_);apply z;clear z K;refine A0.tt rfl<|sR Ht ?_;exact aR
  by_cases b2:s∈d.vars.take j;rw[Cc (.inr b2),Vn]at E;rw[A6 E.symm];rw[Cc b2]at O;refine sG Ht [] 18 [] λK z=>?_;refine Go.Abs.ev ?_;refine ci (J7 hs) ?_;refine⟨_,.inl ⟨_,rfl,a4,rfl⟩,?_⟩;(try refine Go.Abs.Ah b1 ?_);refine⟨V0 _,by omega,by omega,?_⟩;(try refine Go.Abs.Ah b1 ?_);refine ci (J7 hs) ?_;refine cc O ?_;apply z;clear z K;refine A0.tt rfl<|sR Ht ?_;exact aR
  rw[Cu (by rintro(hh|hh);exact hh b1;exact b2 hh),W7]at E;rw[Cu b2]at O;refine sG Ht [] 18 [] λK z=>?_;refine Go.Abs.ev ?_;refine ci (J7 hs) ?_;refine⟨_,.inl ⟨_,rfl,a4,rfl⟩,?_⟩;(try refine Go.Abs.Ah b1 ?_);refine⟨V0 _,by omega,by omega,?_⟩;(try refine Go.Abs.Ah b1 ?_);refine ci (J7 hs) ?_;refine cc O ?_;apply z;clear z K;refine A0.ff rfl (A0.kk (u2 _ _ ?_));clear u2 I;refine lT Ht ?_;exact⟨(),by rw[tk];exact E,(by simp[sle,Av,Af,B3,Ai]),(by simp[ble,A8,M1])⟩
 intro _ E;rw[D3,A0a]at E;rw[<-E,A3 (by decide)]at u1 |-;clear E;refine Ae B6 Ht λI u2=>?_;refine A0.ss rfl ?_;simp only[A5,A9,Ac];refine u1 _ _ ?_;clear u2 I u1 Z;refine sK λZ u1=>?_;by_cases a3:N9 p d.name d.sig.name=(i:Int);rotate_left
 rw[A6 a3];refine sV Ht λK z=>?_;refine⟨_,.inl ⟨_,rfl,a0,rfl⟩,?_⟩;(try refine Go.Abs.Ah a3 ?_);apply z;clear z K;refine tI ?_;refine sR Ht ?_;exact aR;rw[A3 λhh=>hh a3]at u1 |-;rw[a3]at a0;refine sC a0 Ht ?_;refine kI u1 ?_;clear u1 Z;generalize hq:Nx p ev d.sig=o at*;generalize hR:E3w d o=R at*
 refine sG Ht [] 8 [⟨[],[],[8],[8]⟩,⟨[],[],[8],[8]⟩,⟨[],[],[8],[8]⟩,⟨[],[],[8],[8]⟩,⟨[],[],[8],[8]⟩,⟨[],[],[8],[8]⟩,⟨[],[],[8],[8]⟩,⟨[8],[8],[],[]⟩] λK z=>?_;refine Go.Abs.ev ?_;refine cc a7 ?_;refine cc a' ?_;apply z;clear z K;refine kR Ht λZ u1=>?_;have a6:∀(r:F6),r=I9 R->∀sl bx,sle sl [(4,.box 4 0),(8,.box 8 0)]->ble bx [(4,J1),(8,rsC r)]->Z sl bx:=by intro r hr sl bx h1 h2;refine u1 _ _ (A0.ww h1 h2 ?_);clear u1 Z;refine sR Ht ?_;rw[<-hr];exact aR
 refine A0.bb (A0.loop (X:=Nat × Option Int) (λx=>[(1,A7 i),(2,.Aj (Ai p) 0),(4,.box 4 0),(5,.Aj (B3 d) 0),(8,.box 8 0),(9,A7 x.1)]) (λx=>[(4,J1),(8,rsC (I9 x.2))]) (λx=>x.1<=d.sig.params.length/\(match x.2 with|some q=>R=some q|none=>R=((d.sig.params.drop x.1).find? λf=>decide (f.name=d.recv)).map (·.pos))) (λx=>d.sig.params.length - x.1) (0,o) ⟨by simp,by cases o <;> exact hR.symm⟩ (by simp[sle,Av,Af,B3,Ai]) (by simp[ble,A8,I9]) ?_);rintro⟨j,o⟩ ⟨hj,E⟩;simp only at hj E;by_cases U:j<d.sig.params.length
 .have W:(j:Int)<(d.sig.params.length:Int):=by omega
  cases o with
  |some q =>simp only at E;refine Ae W Ht λI u2=>?_;refine A0.ss rfl ?_;simp only[A5,A9,Ac];exact a6 (M1 q) (by rw[E];rfl) _ _ sS (by simp[ble,A8,I9])
  |none =>
   simp only at E;have hs:d.sig.params[j]?=some d.sig.params[j]:=Br U;have dp:d.sig.params.drop j=d.sig.params[j]::d.sig.params.drop (j+1):=Gv U;have ac:=J.sig.params.1;generalize d.sig.params[j]=s at*;rw[dp,Xc]at E;refine Ae W Ht λI u2=>?_;refine gI u2 ?_;clear u2 I;refine sK λI u2=>A0.bb ?_;by_cases hm:s.name=d.recv;rw[Cc hm]at E;refine sG Ht [] 9 [] λK z=>?_;refine Go.Abs.ev ?_;refine⟨by omega,_,Dx hs,rfl,?_⟩;(try refine Go.Abs.Ah hm ?_);apply z;clear z K;refine A0.tt rfl ?_;(refine lV Ht λK z=>?_;refine ci (Dx hs) ?_;apply z;clear z K;try simp only[A5,A9]);refine u2 _ _ ?_;clear u2 I;refine lT Ht ?_;exact⟨(j+1,some s.pos),⟨by omega,by simpa using E⟩,by simp only;omega,(by simp[sle,Av,Af,B3,Ai]),by simp[ble,A8,I9,M1]⟩;rw[Cu hm]at E;refine sG Ht [] 9 [] λK z=>?_;refine Go.Abs.ev ?_;refine⟨by omega,_,Dx hs,rfl,?_⟩;(try refine Go.Abs.Ah hm ?_);apply z;clear z K;refine A0.ff rfl (A0.kk (u2 _ _ ?_));clear u2 I;refine lT Ht ?_;exact⟨(j+1,none),⟨by omega,E⟩,by simp only;omega,(by simp[sle,Av,Af,B3,Ai]),by simp[ble,A8,I9]⟩
 .have a9:j=d.sig.params.length:=by omega
  subst a9;refine Ae B6 Ht λI u2=>?_;refine A0.ss rfl ?_;simp only[A5,A9,Ac];cases o with
  |some q =>simp only at E;exact a6 (M1 q) (by rw[E];rfl) _ _ sS (by simp[ble,A8,I9])
  |none =>simp only at E;rw[D3]at E;exact a6 Pq (by rw[E];rfl) _ _ sS (by simp[ble,A8,I9])
structure Decl.Two(d:Decl):Prop where
 sigs:∀s,s∈d.sigs->d.A1.length+s.A1.length<=sm
 sig:d.vars.length+d.sig.A1.length<=sm
def Decl.Nn.two{d:Decl}(h:d.Nn):d.Two:=⟨λs hs=>by have:=(h.sigs s hs).B8m;have:=h.B8m;unfold sm;omega,by have:=h.sig.B8m;have:=h.G8d;unfold sm;omega⟩
abbrev N5:List Nat:=[0,1,2,4,5,14,27,32]
def F4r(p:Prog)(h:p.Sm)(U:p.decls.length<=100000)(i:Nat)(d:Decl)(hd:p.decls[i]?=some d)(V:d.Two):Ab prog 34 [Cq p,A7 i] (Lv (I9 (Xb p i d))):=by
 have W:=(Aw.1 hd).1;have O:¬(i:Int)<0:=by omega
 have L:¬(i:Int) >= (p.decls.length:Int):=by omega
 unfold Xb;by_cases J:d.kind=1\/d.kind=2
 .rw[A6 J];have I:=H0n p h U i d hd J V.sigs;generalize I9 (B4b p i d)=r at*;refine cB func34 ?_;refine sR N5 ?_;refine P4 O L N5 λE u1=>?_;refine kI u1 ?_;clear u1 E;refine sV N5 λK z=>?_;refine ci (Ek hd) ?_;apply z;clear z K;refine sK λE u1=>?_;by_cases k1:d.kind=1;refine Ap k1 N5 ?_;refine tI ?_;refine sC I N5 ?_;exact aR
  .have k2:d.kind=2:=by omega
   refine Ap k2 N5 ?_;refine tI ?_;refine sC I N5 ?_;exact aR
 rw[A3 J];obtain⟨k1,k2⟩:=Ye.1 J;by_cases k3:d.kind=3;rw[A6 k3];have I:=H1j p h i d hd V.sig;generalize I9 (B3j p i d)=r at*;refine cB func34 ?_;refine sR N5 ?_;refine P4 O L N5 λE u1=>?_;refine kI u1 ?_;clear u1 E;refine sV N5 λK z=>?_;refine ci (Ek hd) ?_;apply z;clear z K;refine P4 k1 k2 N5 λE u1=>?_;refine kI u1 ?_;clear u1 E;refine Ae k3 N5 λE u1=>?_;refine tI ?_;refine sC I N5 ?_;exact aR;rw[A3 k3];refine cB func34 ?_;refine sR N5 ?_;refine P4 O L N5 λE u1=>?_;refine kI u1 ?_;clear u1 E;refine sV N5 λK z=>?_;refine ci (Ek hd) ?_;apply z;clear z K;refine P4 k1 k2 N5 λE u1=>?_;refine kI u1 ?_;clear u1 E;refine Ae k3 N5 λE u1=>?_;refine kI u1 ?_;clear u1 E;refine sV N5 λK z=>?_;refine ci (Ek hd) ?_;apply z;clear z K;exact aR
abbrev Up(c:D8):SV:=.agg [.d (.slice (Di c.p.decls)),.d (.int .i64 c.p.main.kind),.d (.str c.p.main.name),.d (.str c.p.main.type.name),.d (.slice (Ag c.p.main.type.args)),.d (.int .i64 c.p.main.type.pos),.d (.slice (Ag c.p.main.targs)),.d (.slice (Bj c.p.main.kids)),.d (.int .i64 c.p.main.pos),.d (.bool c.strict),.d (.slice (Ax c.env)),.d (.slice (Ay c.vars))]
def G5(c:D8):List D:=[.slice (Di c.p.decls),.int .i64 c.p.main.kind,.str c.p.main.name,.str c.p.main.type.name,.slice (Ag c.p.main.type.args),.int .i64 c.p.main.type.pos,.slice (Ag c.p.main.targs),.slice (Bj c.p.main.kids),.int .i64 c.p.main.pos,.bool c.strict,.slice (Ax c.env),.slice (Ay c.vars)]
abbrev trV(z:Ty × F6):SV:=.tuple [Be z.1,Lv z.2]
abbrev Y5:Aq:=.cells [.d (.str []),.d .nil,.d (.int .i64 0)]
structure D8.Sm(c:D8):Prop where
 p:c.p.Sm
 el:c.env.length<=sm
 env:∀f,f∈c.env->f.Sm
 vl:c.vars.length<=sm
 vars:∀f,f∈c.vars->f.Sm
def B2q{p:Prog}(h:p.Sm){x:Ty}(I:x.Sm):∀f,f∈Bo p x->f.Sm:=by intro f E;unfold Bo at E;split at E;rename_i L;obtain⟨d,hd,_⟩:=N4 (by decide) L;rw[hd,Dh]at E;unfold fieldsD at E;obtain⟨g,J,rfl⟩:=Au.1 E;have:=(h.decls.2 d (Qb hd)).fields.2 g J;exact⟨this.name,this.type.subst I.arg⟩;simp at E
def S9:ty0.Sm:=.mk _ _ _ (by simp) (by simp) (by simp)
variable {c:D8}
def B3t(J:c.Sm):∀e:Ex,e.Sm->(Df c e).1.Sm:=by
 intro e;induction e using Ex.induct with|_ e Z=>?_;intro L;rw[B5w];unfold A1q;split;unfold A4p;split;rename_i f U;split;exact S9;exact(J.vars f (Bm U)).type;exact S9;split;unfold B4r;split;exact S9;split;exact S9;exact L.type;split;exact S9;split;exact S9
 .rename_i z zs I;cases E:e.kids with
  |nil=>rw[E]at I;simp at I
  |cons v vs =>
   rw[E]at I;simp only[Cp,An7]at I;obtain⟨rfl,rfl⟩:=I;have O:=Z v (by rw[E];simp) (L.kids.2 v (by rw[E];simp));split;exact O;split
   .unfold A5w;split;exact S9
    .rename_i s hs;unfold Sj;split;exact S9
     .have W:s∈Cd c.p c.env (Df c v).1:=by unfold Qz at hs;split at hs;cases hs;rename_i s' V;split at hs;cases hs;split at hs;cases hs;split at hs;cases hs;split at hs;cases hs;cases hs;exact Bm V
      exact(A1h J.p J.env O s W).result.subst L.targs.2
   split;unfold Zr;split;exact S9;split;rename_i f U;split;exact S9;unfold Sj;split;exact S9;exact(B2q J.p O f (Bm U)).type;exact S9;unfold B2k;split;exact S9;split;exact S9;exact L.type
def A7u(n:Int):Ab prog 92 [A7 n] (trV (L3 n)):=by refine cB func92 ?_;refine sR [0,2,3] ?_;refine sR [0,2,3] ?_;exact aR
abbrev A6v:List Nat:=[0,1,2,3,4,5,13]
def D1a(x:Ty)(r:F6):Ab prog 97 [Be x,Lv r] (trV (Sj (x,r))):=by
 have E:=A2u x 0 (by decide) (by decide);obtain⟨q,b,l⟩:=r;unfold Sj;simp only;refine cB func97 ?_;refine sR A6v ?_
 (refine A0.zz 2 rfl rfl ?_;refine A0.zz 3 rfl rfl (wk [(2,.Aj (Bs x) 0),(3,.Aj [.int .i64 q,.bool b,.bool l] 0),(4,.box 4 0),(5,.box 5 0)] [(4,Y5),(5,J1)] ?_))
 cases b with
 |true =>rw[A3 (by simp)];refine kR A6v λI u1=>?_;refine kI u1 ?_;refine sG A6v [] 3 gr λK z=>?_;refine ev ?_;apply z;clear z K;exact aR
 |false =>by_cases h:400<x.count 0;rw[A6 ⟨rfl,h⟩];refine sK λI u1=>?_;refine sV A6v λK z=>?_;refine⟨_,.inl ⟨_,rfl,E,rfl⟩,?_⟩;(try simp -implicitDefEqProofs only[EV,Nat.reduceEqDiff,reduceCtorEq,h]);apply z;clear z K;refine tI ?_;refine sR A6v ?_;exact aR;rw[A3 (λJ=>h J.2)];refine sK λI u1=>?_;refine sV A6v λK z=>?_;refine⟨_,.inl ⟨_,rfl,E,rfl⟩,?_⟩;(try simp -implicitDefEqProofs only[EV,Nat.reduceEqDiff,reduceCtorEq,h]);apply z;clear z K;refine kI u1 ?_;refine sG A6v [] 3 gr λK z=>?_;refine ev ?_;apply z;clear z K;exact aR
def D7f(c:D8)(L:c.Sm)(x:Ty):Ab prog 94 [Up c,Be x] (B1 (Lz c x)):=by have I:=B0h c.env x L.el;have J:=A0m c.p x 1;unfold Lz;generalize Fi c.env x=z at*;generalize Bb c.p x 1=b at*;by_cases E:z<0;rw[Cc E,Cr];refine cB func94 ?_;refine sR [0,1,2,3,4] ?_;refine sV [0,1,2,3,4] λK z=>?_;refine⟨_,.inl ⟨_,rfl,I,rfl⟩,?_⟩;(try refine Ah E ?_);refine cc J ?_;apply z;clear z K;exact aR;rw[Cu E,C8];refine cB func94 ?_;refine sR [0,1,2,3,4] ?_;refine sV [0,1,2,3,4] λK z=>?_;refine⟨_,.inl ⟨_,rfl,I,rfl⟩,?_⟩;(try refine Ah E ?_);apply z;clear z K;exact aR
def E5a(c:D8)(L:c.Sm)(x:Ty):Ab prog 99 [Up c,Be x] (B1 (A3j c x)):=by have I:=B0h c.env x L.el;have J:=A0m c.p x 2;unfold A3j;generalize Fi c.env x=z at*;generalize Bb c.p x 2=b at*;by_cases E:0<=z;rw[Cc E,Vn];refine cB func99 ?_;refine sR [0,1,2,3,4] ?_;refine sV [0,1,2,3,4] λK z=>?_;refine⟨_,.inl ⟨_,rfl,I,rfl⟩,?_⟩;(try refine Ah E ?_);apply z;clear z K;exact aR;rw[Cu E,W7];refine cB func99 ?_;refine sR [0,1,2,3,4] ?_;refine sV [0,1,2,3,4] λK z=>?_;refine⟨_,.inl ⟨_,rfl,I,rfl⟩,?_⟩;(try refine Ah E ?_);refine cc J ?_;apply z;clear z K;exact aR
abbrev Vc:List Nat:=[0,1,2,3,4,5,6,7,8,27]
def D4n(c:D8)(E:c.Sm)(e:Ex)(hT:Ab prog 36 [Up c,Bg e] (trV (Df c e)))(J:(Df c e).1.Sm)(w:Ty)(O:w.Sm):Ab prog 90 [Up c,Bg e,Be w] (Lv (Ua c w e (Df c e))):=by
 have I:=A6r c.p E.p c.env E.el E.env (Df c e).1 w J O;unfold Ua;generalize Df c e=z at*;obtain⟨x,⟨q,b,l⟩⟩:=z;simp only at I J |-;cases b with
 |true =>rw[A3 (by simp)];refine cB func90 ?_;refine sR Vc ?_;refine sC hT Vc ?_;refine kR Vc λL u1=>?_;refine kI u1 ?_;refine sR Vc ?_;exact aR
 |false =>
  generalize Cg c.p c.env x w=b at*;cases b with
  |true =>rw[A3 (by simp)];refine cB func90 ?_;refine sR Vc ?_;refine sC hT Vc ?_;refine kC I Vc λL u1=>?_;refine kI u1 ?_;refine sR Vc ?_;exact aR
  |false =>rw[A6 ⟨rfl,rfl⟩];refine cB func90 ?_;refine sR Vc ?_;refine sC hT Vc ?_;refine kC I Vc λL u1=>?_;refine tI ?_;refine sR Vc ?_;exact aR
abbrev A0b:List Nat:=[0,1,2,3,4,5,10,11,12,16,34]
def E5n(c:D8)(l:List Ex)(a2:l.length<=sm)(params:List Param)(a1:params.length=l.length)(I:∀f,f∈params->f.Sm)(names:List A2)(args:List Ty)(ha:∀u,u∈args->u.Sm)
  (hF:∀k,k∈l->∀w:Ty,w.Sm->Ab prog 90 [Up c,Bg k,Be w] (Lv (Ua c w k (Df c k)))) :
  Ab prog 95 [Up c,.d (.slice (Bj l)),.d (.slice (Ay params)),Ce names,Co args] (Lv (L6 c (params.map λf=>f.type.subst names args) l (l.map (Df c)))):=by
 generalize hR:L6 c (params.map λf=>f.type.subst names args) l (l.map (Df c))=R;refine cB func95 ?_;refine sR A0b ?_;refine A0.zz 5 rfl rfl (wk [(1,.d (.slice (Bj l))),(2,.d (.slice (Ay params))),(3,Ce names),(4,Co args),(5,.Aj (G5 c) 0),(10,.box 10 0)] [(10,J1)] ?_);refine kR A0b λK1 u1=>?_;refine A0.bb (A0.ii l (X:=Unit) (λj _=>[(1,.d (.slice (Bj l))),(2,.d (.slice (Ay params))),(3,Ce names),(4,Co args),(5,.Aj (G5 c) 0),(10,.box 10 0),(11,A7 j)]) (λ_ _=>[(10,J1)]) (λj _=>L6 c ((params.drop j).map λf=>f.type.subst names args) (l.drop j) ((l.drop j).map (Df c))=R) () hR (by simp[sle,Av,Af,G5]) sB ?_ ?_);rotate_left
 .intro j _ k hk L dp tk a0 E;have V:j<params.length:=by omega
  have hp:params[j]?=some params[j]:=Br V;have J:=Gi V;have W:params.drop j=params[j]::params.drop (j+1):=Gv V;generalize params[j]=f at*;rw[dp,W,Cp,Cp,L6]at E;have hs:=Q0 names args ha f.type (I f J).type;have hf:=hF k L (f.type.subst names args) ((I f J).type.subst ha);generalize Ua c (f.type.subst names args) k (Df c k)=r at*;refine Ae a0 A0b λO u2=>?_;refine gI u2 ?_;clear u2 O;refine sK λO u2=>A0.bb ?_;refine sG A0b [] 15 [⟨[],[],[12],[12]⟩,⟨[],[],[12],[12]⟩,⟨[],[],[12],[12]⟩,⟨[],[],[12],[12]⟩,⟨[],[],[12],[12]⟩,⟨[],[],[12],[12]⟩,⟨[],[],[12],[12]⟩,⟨[],[],[12],[12]⟩,⟨[],[],[12],[12]⟩,⟨[],[],[12],[12]⟩,⟨[],[],[12],[12]⟩,⟨[],[],[12],[12]⟩,⟨[],[],[12],[12]⟩,⟨[],[],[12],[12]⟩,⟨[12],[12],[],[]⟩] λK z=>?_;simp -implicitDefEqProofs only[EV,Nat.reduceAdd,Nat.reduceEqDiff,Nat.reduceBEq,reduceCtorEq,TFA,G5];refine ci (Ck hk) ?_;refine ci (Dx hp) ?_;refine cc hs ?_;refine cc hf ?_;apply z;clear z K;refine sR A0b ?_;refine A0.cond rfl (λZ=>?_) (λZ=>?_);rw[A6 Z]at E;refine sR A0b ?_;rw[<-E];exact aR;rw[A3 (by rw[Z];simp)]at E;refine A0.kk (u2 _ _ ?_);clear u2 O;refine lT A0b ?_;exact⟨(),E,(by simp[sle,Av,Af,G5]),sB⟩
 intro _ E;rw[D3]at E;have U:R=Pq:=by rw[<-E];cases (params.drop l.length).map λf=>f.type.subst names args <;> rfl
 subst U;refine Ae B6 A0b λO u2=>?_;refine A0.ss rfl ?_;simp only[A5,A9,Ac];refine u1 _ _<|sR A0b ?_;exact aR
variable {e:Ex} {x:Ty}
def G8c{j:Nat}{s:A4}(I:F5 (Cd c.p c.env x) e.name=j)(J:(Cd c.p c.env x)[j]?=some s):Qz c e x=if s.A1.length≠e.targs.length then .inl e.pos else
  match P3 c.p c.env e.targs with
  |some q=>.inl q
  |none=>if 0<=Hi c.p c.env s.A1 e.targs then .inl ((e.targs[(Hi c.p c.env s.A1 e.targs).toNat]?).getD default).pos else
   if e.kids.length≠s.params.length+1 then .inl e.pos else .inr s:=by unfold Qz;rw[I,Hx,J];simp only;by_cases E:s.A1.length≠e.targs.length;rw[A6 (.inr E),A6 E];rw[A3 (by rintro(h|h);omega;exact E h),A3 E] <;> rfl
abbrev Ip:List Nat:=[0,1,2,3,4,5,6,7,8,9,10,11,12,13,14,15,16,40,54,70,85,102]
def E7x(c:D8)(J:c.Sm)(e:Ex)(he:e.Sm)(x:Ty)(hx:x.Sm)(ao:1<=e.kids.length)
  (hF:∀k,k∈e.kids.tail->∀w:Ty,w.Sm->Ab prog 90 [Up c,Bg k,Be w] (Lv (Ua c w k (Df c k)))) :
  Ab prog 96 [Up c,Bg e,Be x] (trV (A5w c e x (e.kids.tail.map (Df c)))):=by
 have a4:=A6n c.p J.p c.env J.el J.env x hx;have ai:=Y9 J.p c.env x;have ad:=A1h J.p J.env hx;have a3:=B4i (Cd c.p c.env x) e.name ai;have O:=A7u e.pos;have ak:=he.targs.1;have aa:=@G8c c e x;generalize hR:A5w c e x (e.kids.tail.map (Df c))=R;unfold A5w at hR;have a2:Qz c e x=.inl e.pos->R=L3 e.pos:=λh=>by rw[<-hR,h]
 have a1:F5 (Cd c.p c.env x) e.name = -1->Qz c e x=.inl e.pos:=λh=>by unfold Qz;rw[h];split;rfl;rw[A6 (.inl (by decide))]
 have a6:=Lo (λs:A4=>decide (s.name=e.name)) (Cd c.p c.env x);unfold F5 at aa a1;generalize Cd c.p c.env x=l at*;refine cB func96 ?_;refine sR Ip ?_;refine A0.zz 3 rfl rfl ?_;refine A0.zz 4 rfl rfl ?_;refine A0.zz 5 rfl rfl (wk [(3,.Aj (G5 c) 0),(4,.Aj (Bp e) 0),(5,.Aj (Bs x) 0),(6,.box 6 0),(7,.box 7 0)] [(6,Y5),(7,J1)] ?_);refine sQ Ip λK z=>?_;simp -implicitDefEqProofs only[EV,Nat.reduceAdd,Nat.reduceEqDiff,Nat.reduceLeDiff,reduceCtorEq,TFA,G5];refine⟨_,.inl ⟨_,rfl,a4,rfl⟩,?_⟩;apply z;clear z K;refine sC a3 Ip ?_;rcases a6 with⟨h1,_⟩|⟨j,s,h1,h2,_⟩;rw[h1];obtain rfl:=a2 (a1 h1);refine sK λK1 u1=>dR Ip 12 ?_;refine tI ?_;refine sC O Ip ?_;exact aR;have E:=aa h1 h2;have hs:=ad s (Bm h2);rw[h1];have a8:¬(j:Int)<0:=by omega
 by_cases a0:s.A1.length=e.targs.length;rotate_left
 .rw[A6 a0]at E;obtain rfl:=a2 E;have U:¬(s.A1.length:Int)=(e.targs.length:Int):=by omega
  refine sK λK1 u1=>?_;refine sG Ip [] 12 [] λK z=>?_;refine Ah a8 ?_;refine⟨by omega,_,De h2,rfl,?_⟩;(try refine Ah U ?_);apply z;clear z K;refine tI ?_;refine sC O Ip ?_;exact aR
 rw[A3 λhh=>hh a0]at E;have U:(s.A1.length:Int)=(e.targs.length:Int):=by omega
 have ae:=D0q c.p J.p c.env J.el J.env s.A1 hs.A1.1 hs.A1.2 e.targs a0.symm he.targs.2;have af:=@E1t c.p c.env s.A1 e.targs;refine sK λK1 u1=>?_;refine sG Ip [] 12 [] λK z=>?_;refine Ah a8 ?_;refine⟨by omega,_,De h2,rfl,?_⟩;(try refine Ah U ?_);apply z;clear z K;refine kI u1 ?_;clear u1 K1;refine sV Ip λK z=>?_;refine ci (De h2) ?_;apply z;clear z K;refine A0.zz 10 rfl rfl (wk [(3,.Aj (G5 c) 0),(4,.Aj (Bp e) 0),(6,.box 6 0),(7,.box 7 0),(10,.Aj (Dm s) 0)] [(6,Y5),(7,J1)] ?_);refine sK λK1 u1=>?_;refine sQ Ip λK z=>?_;simp -implicitDefEqProofs only[EV,Nat.reduceEqDiff,reduceCtorEq,G5];apply z;clear z K;refine A0.bb (A0.ii e.targs (X:=Unit) (λj _=>[(3,.Aj (G5 c) 0),(4,.Aj (Bp e) 0),(6,.box 6 0),(7,.box 7 0),(10,.Aj (Dm s) 0),(11,A7 j)]) (λ_ _=>[(6,Y5),(7,J1)]) (λj _=>P3 c.p c.env (e.targs.drop j)=P3 c.p c.env e.targs) () (by simp) (by simp[sle,Av,Af,G5,Bp,Dm]) sB ?_ ?_);rotate_left
 .intro j _ d hd a' dp tk ag V;have I:=A9i c.p J.p c.env J.el J.env d (he.targs.2 d a');rw[dp,P3]at V;refine sK λK2 u2=>?_
  (refine sQ Ip λK z=>?_;simp -implicitDefEqProofs only[EV,Nat.reduceEqDiff,reduceCtorEq,TFA,G5,ag];apply z;clear z K)
  refine gI u2 ?_;clear u2 K2;refine sK λK2 u2=>A0.bb ?_;cases ho:Bx c.p c.env d with
  |none =>
   rw[ho]at I V;simp only[Tz]at I V;refine sG Ip [] 14 [] λK z=>?_;refine ev ?_;refine ci (Ev hd) ?_;refine cc I ?_;apply z;clear z K;refine sR Ip ?_;refine A0.ff rfl (A0.kk (u2 _ _ ?_));clear u2 K2;(refine lV Ip λK z=>?_;refine⟨by first| (unfold B7;omega)| (simp only[B7,sm]at*;omega),?_⟩;apply z;clear z K;try simp only[A5,]);exact⟨(),V,(by simp[sle,Av,Af,G5,Bp,Dm]),sB⟩
  |some q =>
   rw[ho]at I V;simp only[Tz]at I V;rw[<-V]at E;obtain rfl:R=L3 q:=by rw[<-hR,E]
   have W:=A7u q;refine sG Ip [] 14 [] λK z=>?_;refine ev ?_;refine ci (Ev hd) ?_;refine cc I ?_;apply z;clear z K;refine sR Ip ?_;refine A0.tt rfl<|sC W Ip ?_;exact aR
 intro _ V;rw[D3,P3]at V;rw[<-V]at E;simp only at E;clear V;refine sK λK2 u2=>?_;refine sQ Ip λK z=>?_;simp -implicitDefEqProofs only[EV,Nat.reduceEqDiff,reduceCtorEq,TFA,G5,B6];apply z;clear z K;refine A0.ss rfl ?_;simp only[A5,A9,Ac];refine u1 _ _ ?_;clear u2 K2 u1 K1;refine sC ae Ip ?_;generalize Hi c.p c.env s.A1 e.targs=b at*;by_cases L:0<=b
 .obtain⟨u,hu⟩:=af L a0.symm;rw[A6 L,hu,Dh]at E;obtain rfl:R=L3 u.pos:=by rw[<-hR,E]
  have W:=A7u u.pos;refine Ae L Ip λK1 u1=>?_;refine tI ?_;refine sV Ip λK z=>?_;refine ci (Ev hu) ?_;refine cc W ?_;apply z;clear z K;exact aR
 rw[A3 L]at E;refine Ae L Ip λK1 u1=>?_;refine kI u1 ?_;clear u1 K1;have am:=hs.params.1;by_cases a9:e.kids.length=s.params.length+1;rotate_left
 .rw[A6 a9]at E;obtain rfl:=a2 E;have Z:¬(e.kids.length:Int)=(s.params.length:Int)+1:=by omega
  refine sK λK1 u1=>?_;refine sQ Ip λK z=>?_;refine Ah Z ?_;refine⟨by first| (unfold B7;omega)| (simp only[B7,sm]at*;omega),?_⟩;apply z;clear z K;refine tI ?_;refine sC O Ip ?_;exact aR
 rw[A3 λhh=>hh a9]at E;have Z:(e.kids.length:Int)=(s.params.length:Int)+1:=by omega
 refine sK λK1 u1=>?_;refine sQ Ip λK z=>?_;refine Ah Z ?_;refine⟨by first| (unfold B7;omega)| (simp only[B7,sm]at*;omega),?_⟩;apply z;clear z K;refine kI u1 ?_;clear u1 K1;have ac:=Qh s.A1 hs.A1.1;have a5:=E5n c e.kids.tail (by rw[List.length_tail];omega) s.params (by rw[List.length_tail];omega) hs.params.2 (s.A1.map (·.name)) e.targs he.targs.2 hF;have ah:=Q0 (s.A1.map (·.name)) e.targs he.targs.2 s.result hs.result;rw[E]at hR;simp only at hR;have a7:=D1a (s.result.subst (s.A1.map (·.name)) e.targs) (L6 c (s.params.map λf=>f.type.subst (s.A1.map (·.name)) e.targs) e.kids.tail (e.kids.tail.map (Df c)));have ab:R=Sj (s.result.subst (s.A1.map (·.name)) e.targs,L6 c (s.params.map λf=>f.type.subst (s.A1.map (·.name)) e.targs) e.kids.tail (e.kids.tail.map (Df c))):=hR.symm;rw[<-ab]at a7;have aj:Bj e.kids.tail=((Bj e.kids).take e.kids.length).drop 1:=by rw[Ym (by rw[Wt];exact Bq _),I0,I0,<-List.map_drop,List.drop_one]
 rw[aj]at a5;generalize L6 c (s.params.map λf=>f.type.subst (s.A1.map (·.name)) e.targs) e.kids.tail (e.kids.tail.map (Df c))=r at*;obtain⟨rt,rr⟩:=R;refine sV Ip λK z=>?_;refine⟨_,.inl ⟨_,rfl,ac,rfl⟩,?_⟩;apply z;clear z K;refine sG Ip [] 11 [⟨[],[],[16],[16]⟩,⟨[],[],[16],[16]⟩,⟨[],[],[16],[16]⟩,⟨[],[],[16],[16]⟩,⟨[],[],[16],[16]⟩,⟨[],[],[16],[16]⟩,⟨[],[],[16],[16]⟩,⟨[],[],[16],[16]⟩,⟨[],[],[16],[16]⟩,⟨[],[],[16],[16]⟩,⟨[16],[16],[],[]⟩] λK z=>?_;refine ev ?_;refine⟨Z5 _,by omega,by omega,?_⟩;refine cc a5 ?_;apply z;clear z K;refine sG Ip [] 10 [] λK z=>?_;refine ev ?_;refine cc ah ?_;refine cc a7 ?_;apply z;clear z K;exact aR
def F6k(h:I2 c.vars e.name = -1):A4p c e=L3 e.pos:=by unfold A4p;rw[h];split;rw[A6 (by decide)];rfl
def F4g{r:F6}(hs:Lz c x=true)(h:I2 (Bo c.p x) e.name = -1):Zr c e x r=L3 e.pos:=by unfold Zr;rw[A3 (by rw[hs];simp),h];split;rw[A6 (by decide)];rfl
def C9t(h:Lz c x=true):Bb c.p x 1=true:=by unfold Lz at h;rw[Bi]at h;exact h.2
def E8f(h:¬ 0<=Fi c.env x):Zg c x=x:=by unfold Zg Ct;rw[A6 (by omega)];rfl
def F1h{f:Ak}(h:0<=Fi c.env x)(E:c.env[(Fi c.env x).toNat]?=some f):Zg c x=f.bound:=by unfold Zg Ct;rw[A3 (by omega),E];rfl
abbrev Bv:List Nat:=[0,1,2,3,4,5,6,7,8,9,10,11,12,13,14,15,16,19,24,35,50,61,82,117,133,138,147,151,164,174,199,205,212,240]
def C3x(c:D8)(O:c.Sm):∀e:Ex,e.Sm->Ab prog 36 [Up c,Bg e] (trV (Df c e)):=by
 intro e;induction e using Ex.induct with|_ e ih=>?_;intro he;have I:=A7u e.pos;have hF:∀k,k∈e.kids->∀w:Ty,w.Sm->Ab prog 90 [Up c,Bg k,Be w] (Lv (Ua c w k (Df c k))):=λk hk w hw =>D4n c O k (ih k hk (he.kids.2 k hk)) (B3t O k (he.kids.2 k hk)) w hw;have ai:=he.kids.1;have ak:=O.vl;rw[B5w];generalize E:A1q c e (e.kids.map (Df c))=R;unfold A1q at E;refine cB func36 ?_;refine sR Bv ?_;refine A0.zz 2 rfl rfl ?_;refine A0.zz 3 rfl rfl (wk [(2,.Aj (G5 c) 0),(3,.Aj (Bp e) 0),(4,.box 4 0),(5,.box 5 0)] [(4,Y5),(5,J1)] ?_);by_cases k1:e.kind=1
 .rw[A6 k1]at E;have d1:=Cc k1;refine sK λJ u1=>?_;refine sQ Bv λK z=>?_;simp -implicitDefEqProofs only[EV,Nat.reduceEqDiff,reduceCtorEq,TFA,G5,d1];apply z;clear z K;refine tI ?_;refine kR Bv λK2 u2=>?_;refine A0.bb (A0.ii c.vars (X:=Unit) (λj _=>[(2,.Aj (G5 c) 0),(3,.Aj (Bp e) 0),(4,.box 4 0),(5,.box 5 0),(6,A7 j)]) (λ_ _=>[(4,Y5),(5,J1)]) (λj _=>∀y,y∈c.vars.take j->(λf:Param=>decide (f.name=e.name)) y=false) () (by simp) (by simp[sle,Av,Af,G5,Bp]) sB ?_ ?_);rotate_left
  .intro j _ d hd ad dp tk aa hI;refine sK λK3 u3=>?_
   (refine sQ Bv λK z=>?_;simp -implicitDefEqProofs only[EV,Nat.reduceEqDiff,reduceCtorEq,TFA,G5,aa];apply z;clear z K)
   refine gI u3 ?_;clear u3 K3;refine sK λK3 u3=>A0.bb ?_;by_cases hn:d.name=e.name
   .have a9:I2 c.vars e.name=j:=Sc hd (by simp[hn]) hI;have ah:¬(j:Int)<0:=by omega
    obtain rfl:R=(d.type,Pq):=by rw[<-E];unfold A4p;rw[a9,Hx,hd];simp only;rw[A3 ah]
    have dn:=Cc hn
    (refine sG Bv [] 8 [] λK z=>?_;refine ev ?_;refine⟨by omega,_,Dx hd,rfl,?_⟩;(try refine Ah dn ?_);apply z;clear z K)
    refine A0.tt rfl ?_
    (refine sV Bv λK z=>?_;refine ci (Dx hd) ?_;apply z;clear z K)
    exact aR
   ·(refine sG Bv [] 8 [] λK z=>?_;refine ev ?_;refine⟨by omega,_,Dx hd,rfl,?_⟩;(try refine Ah hn ?_);apply z;clear z K)
    refine A0.ff rfl (A0.kk (u3 _ _ ?_));clear u3 K3
    (refine lV Bv λK z=>?_;refine⟨by first| (unfold B7;omega)| (simp only[B7,sm]at*;omega),?_⟩;apply z;clear z K;try simp only[A5,])
    refine⟨(),?_,(by simp[sle,Av,Af,G5,Bp]),sB⟩;intro y hy;rw[tk,C6]at hy;rcases hy with hy|hy
    .exact hI y hy
    .simp only[Qp]at hy;subst hy;exact Cu hn
  intro _ hI;rw[Cx]at hI;obtain rfl:R=L3 e.pos:=by rw[<-E];exact F6k (Tb hI)
  refine sK λK3 u3=>?_;refine sQ Bv λK z=>?_;simp -implicitDefEqProofs only[EV,Nat.reduceEqDiff,reduceCtorEq,TFA,G5,B6];apply z;clear z K;refine A0.ss rfl ?_;simp only[A5,A9,Ac];refine u2 _ _<|sC I Bv ?_;exact aR
 rw[A3 k1]at E;refine sK λJ u1=>?_;refine sQ Bv λK z=>?_;simp -implicitDefEqProofs only[EV,Nat.reduceEqDiff,reduceCtorEq,TFA,G5,k1];apply z;clear z K;refine kI u1 ?_;clear u1 J;by_cases k3:e.kind=3
 .rw[A6 k3]at E;unfold B4r at E;have d3:=Cc k3;have U:=A9i c.p O.p c.env O.el O.env e.type he.type;have hst:=D7f c O e.type;refine Ae d3 Bv λJ u1=>?_;refine tI ?_;cases ho:Bx c.p c.env e.type with
  |some q =>rw[ho]at U E;simp only[Tz]at U E;have a3:=A7u q;subst E;refine sC U Bv ?_;refine kR Bv λK2 u2=>?_;refine tI ?_;refine sC a3 Bv ?_;exact aR
  |none =>
   rw[ho]at U E;simp only[Tz]at U E;refine sC U Bv ?_;refine kR Bv λK2 u2=>?_;refine kI u2 ?_;clear u2 K2;rcases Fj (Lz c e.type)with hs|hs;rotate_left;rw[A6 (.inl hs)]at E;subst E;rw[hs]at hst;refine sK λK2 u2=>?_;refine sG Bv [] 15 [] λK z=>?_;refine ev ?_;refine cc hst ?_;apply z;clear z K;refine tI ?_;refine sC I Bv ?_;exact aR;have a2:=B2d c.p O.p e.type he.type (C9t hs);rw[hs]at hst;by_cases hl:(Bo c.p e.type).length=e.kids.length;rotate_left
   .rw[A6 (.inr hl)]at E;subst E;have a7:¬((Bo c.p e.type).length:Int)=(e.kids.length:Int):=by omega
    refine sK λK2 u2=>?_;refine sG Bv [] 15 [] λK z=>?_;refine ev ?_;refine cc hst ?_;refine⟨_,.inl ⟨_,rfl,a2,rfl⟩,?_⟩;(try refine Ah a7 ?_);apply z;clear z K;refine tI ?_;refine sC I Bv ?_;exact aR
   rw[A3 (by rw[hs];simp[hl])]at E;have a7:((Bo c.p e.type).length:Int)=(e.kids.length:Int):=by omega
   have ab:=E5n c e.kids ai (Bo c.p e.type) hl (B2q O.p he.type) [] [] (by simp) hF;have aj:((Bo c.p e.type).map λf=>f.type.subst [] [])=(Bo c.p e.type).map (·.type):=Hb λf _=>Q7 f.type;rw[aj]at ab;subst E;generalize L6 c ((Bo c.p e.type).map (·.type)) e.kids (e.kids.map (Df c))=r at*;refine sK λK2 u2=>?_;refine sG Bv [] 15 [] λK z=>?_;refine ev ?_;refine cc hst ?_;refine⟨_,.inl ⟨_,rfl,a2,rfl⟩,?_⟩;(try refine Ah a7 ?_);apply z;clear z K;refine kI u2 ?_;clear u2 K2;refine sG Bv [] 11 [] λK z=>?_;refine ev ?_;refine cc a2 ?_;refine cc ab ?_;apply z;clear z K;exact aR
 rw[A3 k3]at E;refine Ae k3 Bv λJ u1=>?_;refine kI u1 ?_;clear u1 J;by_cases k2:e.kind≠2/\e.kind≠4/\e.kind≠5;rw[A6 k2]at E;subst E;obtain⟨n2,n4,n5⟩:=k2;refine kR3 n2 n4 n5 Bv λJ u1=>?_;refine tI ?_;refine sC I Bv ?_;exact aR;rw[A3 k2]at E;have kk:e.kind=2\/e.kind=4\/e.kind=5:=by omega
 have af:e.kids=[]\/∃v vs,e.kids=v::vs:=by
  cases e.kids with
  |nil=>exact .inl rfl
  |cons v vs=>exact .inr ⟨v,vs,rfl⟩
 rcases af with W|⟨v,vs,W⟩
 .rw[W]at E;simp only[It]at E;subst E;have a1:(e.kids.length:Int)=0:=by rw[W];rfl
  rcases kk with k|k|k;have e2:=Cc k;refine sK λJ u1=>?_;refine sQ Bv λK z=>?_;simp -implicitDefEqProofs only[EV,Nat.reduceEqDiff,reduceCtorEq,TFA,U7,e2,a1];apply z;clear z K;refine tI ?_;refine sC I Bv ?_;exact aR
  .have n2:¬e.kind=2:=by omega
   have e4:=Cc k;refine sK λJ u1=>?_;refine sQ Bv λK z=>?_;simp -implicitDefEqProofs only[EV,Nat.reduceEqDiff,reduceCtorEq,TFA,U7,n2,e4,a1];apply z;clear z K;refine tI ?_;refine sC I Bv ?_;exact aR
  .have n2:¬e.kind=2:=by omega
   have n4:¬e.kind=4:=by omega
   have e5:=Cc k;refine sK λJ u1=>?_;refine sQ Bv λK z=>?_;simp -implicitDefEqProofs only[EV,Nat.reduceEqDiff,reduceCtorEq,TFA,U7,n2,n4,e5,a1];apply z;clear z K;refine tI ?_;refine sC I Bv ?_;exact aR
 .have a1:¬(e.kids.length:Int)=0:=by rw[W];simp only[Ar];omega
  have h0:e.kids[0]?=some v:=by rw[W];rfl
  have a6:v∈e.kids:=by rw[W];simp
  have hT:=ih v a6 (he.kids.2 v a6);have a4:=B3t O v (he.kids.2 v a6);have U:=A9i c.p O.p c.env O.el O.env e.type he.type;have a0:=E7x c O e he (Df c v).1 a4 (by rw[W];simp) λk hk w hw=>hF k (List.mem_of_mem_tail hk) w hw;have ae:e.kids.tail=vs:=by rw[W];rfl
  rw[ae]at a0;rw[W]at E;clear W;simp only[Cp]at E;generalize Df c v=z at*;obtain⟨x,⟨q,b,lg⟩⟩:=z;simp only at E a4 a0;have a5:=λf:Param=>D1a f.type ⟨q,b,lg⟩;rcases kk with k|k|k
  .have e2:=Cc k;refine sK λJ u1=>?_
   (refine sQ Bv λK z=>?_;simp -implicitDefEqProofs only[EV,Nat.reduceEqDiff,reduceCtorEq,TFA,U7,e2,a1];apply z;clear z K)
   refine kI u1 ?_;clear u1 J
   (refine sG Bv [] 12 gc λK z=>?_;refine ev ?_;refine cj (Ck h0) ?_;refine cc hT ?_;apply z;clear z K)
   (refine A0.zz 9 rfl rfl ?_;refine A0.zz 10 rfl rfl (wk [(2,.Aj (G5 c) 0),(3,.Aj (Bp e) 0),(4,.box 4 0),(5,.box 5 0),(9,.Aj (Bs x) 0),(10,.Aj [.int .i64 q,.bool b,.bool lg] 0)] [(4,Y5),(5,J1)] ?_))
   cases b with
   |true =>rw[A6 rfl]at E;subst E;refine kR Bv λJ u1=>?_;refine tI ?_;refine sG Bv [] 3 gr λK z=>?_;refine ev ?_;apply z;clear z K;exact aR
   |false =>rw[A3 (by simp),A6 k]at E;rw[E]at a0;obtain⟨rt,rr⟩:=R;refine kR Bv λJ u1=>?_;refine kI u1 ?_;clear u1 J;refine sK λJ u1=>?_;refine sQ Bv λK z=>?_;simp -implicitDefEqProofs only[EV,Nat.reduceEqDiff,reduceCtorEq,TFA,G5,e2];apply z;clear z K;refine tI ?_;refine sC a0 Bv ?_;exact aR
  .have n2:¬e.kind=2:=by omega
   have e4:=Cc k;refine sK λJ u1=>?_
   (refine sQ Bv λK z=>?_;simp -implicitDefEqProofs only[EV,Nat.reduceEqDiff,reduceCtorEq,TFA,U7,n2,e4,a1];apply z;clear z K)
   refine kI u1 ?_;clear u1 J
   (refine sG Bv [] 12 gc λK z=>?_;refine ev ?_;refine cj (Ck h0) ?_;refine cc hT ?_;apply z;clear z K)
   (refine A0.zz 9 rfl rfl ?_;refine A0.zz 10 rfl rfl (wk [(2,.Aj (G5 c) 0),(3,.Aj (Bp e) 0),(4,.box 4 0),(5,.box 5 0),(9,.Aj (Bs x) 0),(10,.Aj [.int .i64 q,.bool b,.bool lg] 0)] [(4,Y5),(5,J1)] ?_))
   cases b with
   |true =>rw[A6 rfl]at E;subst E;refine kR Bv λJ u1=>?_;refine tI ?_;refine sG Bv [] 3 gr λK z=>?_;refine ev ?_;apply z;clear z K;exact aR
   |false =>
    rw[A3 (by simp),A3 n2,A6 k]at E;refine kR Bv λJ u1=>?_;refine kI u1 ?_;clear u1 J;refine sK λJ u1=>?_;refine sQ Bv λK z=>?_;simp -implicitDefEqProofs only[EV,Nat.reduceEqDiff,reduceCtorEq,TFA,G5,n2];apply z;clear z K;refine kI u1 ?_;clear u1 J;refine Ae e4 Bv λJ u1=>?_;refine tI ?_;have hst:=D7f c O x;rcases Fj (Lz c x)with hs|hs;rotate_left
    .obtain rfl:R=L3 e.pos:=by rw[<-E];unfold Zr;rw[A6 hs]
     rw[hs]at hst;refine kC hst Bv λK2 u2=>?_;refine tI ?_;refine sC I Bv ?_;exact aR
    have a2:=B2d c.p O.p x a4 (C9t hs);have am:=A5m O.p x;have ac:=@F4g c e x ⟨q,false,lg⟩ hs;have U5:∀(j:Nat) (f:Param),I2 (Bo c.p x) e.name=j->(Bo c.p x)[j]?=some f->Zr c e x ⟨q,false,lg⟩=Sj (f.type,⟨q,false,lg⟩):=λj f h1 h2=>by unfold Zr;rw[A3 (by rw[hs];simp),h1,Hx,h2];simp only;rw[A3 (by omega)]
    rw[hs]at hst;generalize Bo c.p x=L at*;refine kC hst Bv λK2 u2=>?_;refine kI u2 ?_;clear u2 K2;refine sV Bv λK z=>?_;refine⟨_,.inl ⟨_,rfl,a2,rfl⟩,?_⟩;apply z;clear z K;refine kR Bv λK2 u2=>?_;refine A0.bb (A0.ii L (X:=Unit) (λj _=>[(2,.Aj (G5 c) 0),(3,.Aj (Bp e) 0),(4,.box 4 0),(5,.box 5 0),(10,.Aj [.int .i64 q,.bool false,.bool lg] 0),(11,.d (.slice (Ay L))),(12,A7 j)]) (λ_ _=>[(4,Y5),(5,J1)]) (λj _=>∀y,y∈L.take j->(λf:Param=>decide (f.name=e.name)) y=false) () (by simp) (by simp[sle,Av,Af,G5,Bp]) sB ?_ ?_);rotate_left
    .intro j _ d hd ad dp tk aa hI;refine sK λK3 u3=>?_
     (refine sQ Bv λK z=>?_;simp -implicitDefEqProofs only[EV,Nat.reduceEqDiff,reduceCtorEq,TFA,G5,aa];apply z;clear z K)
     refine gI u3 ?_;clear u3 K3;refine sK λK3 u3=>A0.bb ?_;by_cases hn:d.name=e.name
     .have a9:I2 L e.name=j:=Sc hd (by simp[hn]) hI;have a5:=a5 d;rw[<-U5 j d a9 hd,E]at a5;obtain⟨rt,rr⟩:=R;have dn:=Cc hn
      (refine sG Bv [] 7 [] λK z=>?_;refine ev ?_;refine⟨by omega,_,Dx hd,rfl,?_⟩;(try refine Ah dn ?_);apply z;clear z K)
      refine A0.tt rfl ?_
      (refine sG Bv [] 9 [] λK z=>?_;refine ev ?_;refine ci (Dx hd) ?_;refine cc a5 ?_;apply z;clear z K)
      exact aR
     ·(refine sG Bv [] 7 [] λK z=>?_;refine ev ?_;refine⟨by omega,_,Dx hd,rfl,?_⟩;(try refine Ah hn ?_);apply z;clear z K)
      refine A0.ff rfl (A0.kk (u3 _ _ ?_));clear u3 K3
      (refine lV Bv λK z=>?_;refine⟨by first| (unfold B7;omega)| (simp only[B7,sm]at*;omega),?_⟩;apply z;clear z K;try simp only[A5,])
      refine⟨(),?_,(by simp[sle,Av,Af,G5,Bp]),sB⟩;intro y hy;rw[tk,C6]at hy;rcases hy with hy|hy
      .exact hI y hy
      .simp only[Qp]at hy;subst hy;exact Cu hn
    intro _ hI;rw[Cx]at hI;obtain rfl:R=L3 e.pos:=by rw[<-E];exact ac (Tb hI)
    refine sK λK3 u3=>?_;refine sQ Bv λK z=>?_;simp -implicitDefEqProofs only[EV,Nat.reduceEqDiff,reduceCtorEq,TFA,G5,B6];apply z;clear z K;refine A0.ss rfl ?_;simp only[A5,A9,Ac];refine u2 _ _<|sC I Bv ?_;exact aR
  .have n2:¬e.kind=2:=by omega
   have n4:¬e.kind=4:=by omega
   have e5:=Cc k;refine sK λJ u1=>?_
   (refine sQ Bv λK z=>?_;simp -implicitDefEqProofs only[EV,Nat.reduceEqDiff,reduceCtorEq,TFA,U7,n2,n4,e5,a1];apply z;clear z K)
   refine kI u1 ?_;clear u1 J
   (refine sG Bv [] 12 gc λK z=>?_;refine ev ?_;refine cj (Ck h0) ?_;refine cc hT ?_;apply z;clear z K)
   (refine A0.zz 9 rfl rfl ?_;refine A0.zz 10 rfl rfl (wk [(2,.Aj (G5 c) 0),(3,.Aj (Bp e) 0),(4,.box 4 0),(5,.box 5 0),(9,.Aj (Bs x) 0),(10,.Aj [.int .i64 q,.bool b,.bool lg] 0)] [(4,Y5),(5,J1)] ?_))
   cases b with
   |true =>rw[A6 rfl]at E;subst E;refine kR Bv λJ u1=>?_;refine tI ?_;refine sG Bv [] 3 gr λK z=>?_;refine ev ?_;apply z;clear z K;exact aR
   |false =>
    rw[A3 (by simp),A3 n2,A3 n4]at E;unfold B2k at E;refine kR Bv λJ u1=>?_;refine kI u1 ?_;clear u1 J;refine sK λJ u1=>?_
    (refine sQ Bv λK z=>?_;simp -implicitDefEqProofs only[EV,Nat.reduceEqDiff,reduceCtorEq,TFA,G5,n2];apply z;clear z K)
    refine kI u1 ?_;clear u1 J;refine Ae n4 Bv λJ u1=>?_;refine kI u1 ?_;clear u1 J;cases ho:Bx c.p c.env e.type with
    |some n =>rw[ho]at U E;simp only[Tz]at U E;have a3:=A7u n;subst E;refine sC U Bv ?_;refine kR Bv λJ u1=>?_;refine tI ?_;refine sC a3 Bv ?_;exact aR
    |none =>
     rw[ho]at U E;simp only[Tz]at U E;refine sC U Bv ?_;refine kR Bv λJ u1=>?_;refine kI u1 ?_;clear u1 J;have ag:=B0h c.env x O.el;have V:=E5a c O x;have Z:=E5a c O e.type;refine sK λJ u1=>?_;rcases Fj c.strict with hst|hst;rotate_left;rw[A3 (λhh=>by rw[hst]at hh;cases hh.1)]at E;subst E;refine Ap hst Bv ?_;refine A0.ff rfl (A0.kk (u1 _ _ ?_));refine sG Bv [] 4 gm λK z=>?_;refine ev ?_;apply z;clear z K;exact aR
     .refine sR Bv ?_;refine A0.cond rfl (λ_=>?_) (λhf=>absurd (hst.symm.trans hf) (by decide));refine sR Bv ?_;refine sC ag Bv<|sK λK2 u2=>?_;by_cases h0:0<=Fi c.env x
      .obtain⟨f,hf,_⟩:=A7k (env:=c.env) (t:=x) (by omega);have a':=F1h h0 hf;have hi:=A6r c.p O.p c.env O.el O.env e.type f.bound he.type (O.env f (Bm hf)).bound;have a8:Cg c.p c.env e.type (Zg c x)=Cg c.p c.env e.type f.bound:=by rw[a']
       rw[<-a8]at hi;refine Ap h0 Bv ?_;refine A0.tt rfl ?_;(refine lV Bv λK z=>?_;refine⟨h0,_,Fc hf,rfl,?_⟩;(try refine ev ?_);apply z;clear z K;try simp only[A5,]);refine u2 _ _ ?_;clear u2 K2;rcases Fj (A3j c x)with ha|ha;rotate_left;rw[A6 ⟨hst,by unfold U1;rw[ha];rfl⟩]at E;subst E;rw[ha]at V;refine sC V Bv ?_;refine tI ?_;refine sC I Bv ?_;exact aR;rw[ha]at V;rcases Fj (A3j c e.type)with hb|hb;rw[A3 (λhh=>by have:=hh.2;unfold U1 at this;rw[ha,hb]at this;cases this)]at E;subst E;rw[hb]at Z;refine sV Bv λK z=>?_;refine cc V ?_;refine cc Z ?_;apply z;clear z K;refine A0.ff rfl (A0.kk (u1 _ _ ?_));refine sG Bv [] 4 gm λK z=>?_;refine ev ?_;apply z;clear z K;exact aR;rw[hb]at Z;rcases Fj (Cg c.p c.env e.type (Zg c x))with hm|hm;rw[A3 (λhh=>by have:=hh.2;unfold U1 at this;rw[ha,hb,hm]at this;cases this)]at E;subst E;rw[hm]at hi;refine sV Bv λK z=>?_;refine cc V ?_;refine cc Z ?_;refine cc hi ?_;apply z;clear z K;refine A0.ff rfl (A0.kk (u1 _ _ ?_));refine sG Bv [] 4 gm λK z=>?_;refine ev ?_;apply z;clear z K;exact aR;rw[A6 ⟨hst,by unfold U1;rw[ha,hb,hm];rfl⟩]at E;subst E;rw[hm]at hi;refine sV Bv λK z=>?_;refine cc V ?_;refine cc Z ?_;refine cc hi ?_;apply z;clear z K;refine tI ?_;refine sC I Bv ?_;exact aR
      .have a':=E8f h0;have hi:=A6r c.p O.p c.env O.el O.env e.type x he.type a4;have a8:Cg c.p c.env e.type (Zg c x)=Cg c.p c.env e.type x:=by rw[a']
       rw[<-a8]at hi;refine Ap h0 Bv ?_;refine A0.ff rfl (A0.kk (u2 _ _ ?_));clear u2 K2;rcases Fj (A3j c x)with ha|ha;rotate_left;rw[A6 ⟨hst,by unfold U1;rw[ha];rfl⟩]at E;subst E;rw[ha]at V;refine sC V Bv ?_;refine tI ?_;refine sC I Bv ?_;exact aR;rw[ha]at V;rcases Fj (A3j c e.type)with hb|hb;rw[A3 (λhh=>by have:=hh.2;unfold U1 at this;rw[ha,hb]at this;cases this)]at E;subst E;rw[hb]at Z;refine sV Bv λK z=>?_;refine cc V ?_;refine cc Z ?_;apply z;clear z K;refine A0.ff rfl (A0.kk (u1 _ _ ?_));refine sG Bv [] 4 gm λK z=>?_;refine ev ?_;apply z;clear z K;exact aR;rw[hb]at Z;rcases Fj (Cg c.p c.env e.type (Zg c x))with hm|hm;rw[A3 (λhh=>by have:=hh.2;unfold U1 at this;rw[ha,hb,hm]at this;cases this)]at E;subst E;rw[hm]at hi;refine sV Bv λK z=>?_;refine cc V ?_;refine cc Z ?_;refine cc hi ?_;apply z;clear z K;refine A0.ff rfl (A0.kk (u1 _ _ ?_));refine sG Bv [] 4 gm λK z=>?_;refine ev ?_;apply z;clear z K;exact aR;rw[A6 ⟨hst,by unfold U1;rw[ha,hb,hm];rfl⟩]at E;subst E;rw[hm]at hi;refine sV Bv λK z=>?_;refine cc V ?_;refine cc Z ?_;refine cc hi ?_;apply z;clear z K;refine tI ?_;refine sC I Bv ?_;exact aR
end Go.Abs
