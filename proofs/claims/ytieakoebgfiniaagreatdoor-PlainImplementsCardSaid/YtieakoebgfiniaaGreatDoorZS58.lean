/- castingsref15.Env -/
import Derived.Test.YtieakoebgfiniaaGreatDoorZV05
set_option linter.all false
set_option maxHeartbeats 4000000
set_option maxRecDepth 100000
namespace Go.Abs
open Go Go.Proofs Tryz
abbrev Q9:List Nat:=[0,1,2,3,4,5,6,7,8,9,18,39]
def D0e(p:Prog)(h:p.Sm)(d:Decl)(hd:d.Sm):C8 prog 195 [Ct p,Ia d] [] (.acc 8) [(8,.rows 5 (Ag (Hf p d)))]:=by
 have V:=C8p h d.name;have hf:=B9o p d.name;have a2:=R3 (Em p d.name) V.1;have a3:=hd.vars.1;have a1:∀u,u∈H6 d.vars->u.Sm:=by intro u hu;obtain⟨v,hv,rfl⟩:=Au.1 hu;exact .mk _ _ _ (hd.vars.2 v hv) (by simp) (by simp)
 unfold Hf;generalize hL:Em p d.name=L at*;refine bB func195 ?_;refine sR Q9 ?_
 (refine A0.zz 2 rfl rfl ?_;refine A0.zz 3 rfl rfl (wk [(2,.A9 (Aj p) 0),(3,.A9 (Ar d) 0),(4,.d .nil)] [] ?_))
 refine sC hf Q9 ?_;refine sR Q9 ?_;refine A0.pp 6 3 6 rfl<|kR Q9 λK1 u1=>?_;refine A0.bb (A0.ii d.vars (X:=Unit) (λj _=>[(3,.A9 (Ar d) 0),(5,.d (.slice (Ag L))),(6,.acc 6),(7,A5 j)]) (λj _=>[(6,.rows 3 (Ax (H6 (d.vars.take j))))])
  (λj _=>True) () trivial (by simp[sle,Ay,Ae,Ar]) (by simp[ble,A7,Dj,H6]) ?_ ?_)
 rotate_left
 .intro j _ s hs O dp tk W _;rw[tk];refine Ai W Q9 λE u2=>?_;refine gI u2 ?_;clear u2 E;refine sK λE u2=>A0.bb ?_
  (refine lV Q9 λK z=>?_;refine ci (Ko hs) ?_;refine⟨by simp,by simp only[H6,Bc,D4];unfold lim sm at*;omega,?_⟩;(try refine ev ?_);apply z;clear z K;try simp only[A4,Ac])
  refine u2 _ _ ?_;clear u2 E;refine lT Q9 ?_;exact⟨(),trivial,(by simp[sle,Ay,Ae,Ar]),by simp[ble,A7,Dj,H6,Bo,Ty.name,Ty.args,Ty.pos]⟩
 intro _ _;rw[Ci];refine Ai B3 Q9 λE u2=>?_;refine A0.ss rfl ?_;simp only[A4,Ac,Af];refine u1 _ _ ?_;clear u2 E u1 K1
 (refine A0.Lw 6 rfl (wk [(3,.A9 (Ar d) 0),(5,.d (.slice (Ag L))),(6,.d (.slice (Ax (H6 d.vars))))] [] ?_))
 refine sR Q9 ?_;refine A0.pp 8 5 8 rfl<|kR Q9 λK1 u1=>?_;have a0:∀z,z∈L.zip d.vars->Aa prog 64 [B7 z.1.bound,Cc (L.map (·.name)),Cm (H6 d.vars)] (B7 (z.1.bound.subst (Ad L) (H6 d.vars))):=λz J =>Pm (L.map (·.name)) (H6 d.vars) a1 z.1.bound (V.2 z.1 (At3 J).1).bound
 refine A0.bb (A0.ii (L.zip d.vars) (X:=Unit) (λj _=>[(3,.A9 (Ar d) 0),(5,.d (.slice (Ag L))),(6,.d (.slice (Ax (H6 d.vars)))),(8,.acc 8),(9,A5 j)])
  (λj _=>[(8,.rows 5 (Ag (((L.zip d.vars).take j).map λz=>⟨z.2,z.1.bound.subst (Ad L) (H6 d.vars),z.1.pos⟩)))])
  (λj _=>True) () trivial (by simp[sle,Ay,Ae,Ar]) (by simp[ble,A7,Ag]) ?_ ?_)
 rotate_left
 .intro j _ z J O dp tk W _;obtain⟨f,v⟩:=z;rw[Am2]at J;have a6:=(Az.1 J.1).1;have a4:=(Az.1 J.2).1;have I:(j:Int)<(L.length:Int):=by omega
  have U:(j:Int)<((H6 d.vars).length:Int):=by simp only[H6,Bc];omega
  have hs:=a0 (f,v) O;simp only at hs;have a5:(L.zip d.vars).length<=sm:=by rw[Ap9];omega
  rw[tk];refine Ng I U Q9 λE u2=>?_;refine gI u2 ?_;clear u2 E;refine sK λE u2=>A0.bb ?_
  (refine lG Q9 [] 22 [] λK z=>?_;refine ev ?_;refine ci (Ko J.2) ?_;refine ci (F4 J.1) ?_;refine cc a2 ?_;refine cc hs ?_;refine ci (F4 J.1) ?_;refine⟨by simp,by simp only[Bc,D4];unfold lim sm at*;omega,?_⟩;(try refine ev ?_);apply z;clear z K;try simp only[A4,Ac])
  refine u2 _ _ ?_;clear u2 E;refine lT Q9 ?_;exact⟨(),trivial,(by simp[sle,Ay,Ae,Ar]),by simp[ble,A7,Ag,Jm]⟩
 intro _ _;rw[Ci];have Z:∀sl bx,sle sl [(8,.acc 8)]->ble bx [(8,.rows 5 (Ag ((L.zip d.vars).map λz=>⟨z.2,z.1.bound.subst (Ad L) (H6 d.vars),z.1.pos⟩)))]->K1 sl bx:=by intro sl bx h1 h2;refine u1 _ _ (A0.ww h1 h2 ?_);clear u1 K1;refine sR Q9 ?_;exact A0.ret ⟨_,by rw[results195];rfl,.inl rfl,by simp[ble,A7]⟩
 refine sK λE u2=>?_;by_cases I:L.length<=d.vars.length
 .have e:(L.zip d.vars).length=L.length:=by rw[Ap9];omega
  rw[e];refine Ak B3 Q9 ?_;refine A0.ss rfl ?_;simp only[A4,Ac,Af];exact Z _ _ sS sB
 .have e:(L.zip d.vars).length=d.vars.length:=by rw[Ap9];omega
  rw[e];have I:(d.vars.length:Int)<(L.length:Int):=by omega
  have U:¬(d.vars.length:Int)<((H6 d.vars).length:Int):=by simp[H6]
  refine Ei I U Q9 ?_;refine A0.ss rfl ?_;simp only[A4,Ac,Af];exact Z _ _ sS sB
def G5f(p:Prog)(h:p.Sm)(d:Decl)(hd:d.Sm):Aa prog 195 [Ct p,Ia d] (.d (.slice (Ag (Hf p d)))):=(D0e p h d hd).pub
abbrev rsC(r:F8):Aq:=.cells [.d (.int .i64 r.pos),.d (.bool r.bad),.d (.bool r.D9)]
abbrev Ec:List Nat:=[0,1,2,4,5,6,7,8,19,34,52,58,69,79]
set_option maxHeartbeats 4000000 in
def F1t(p:Prog)(h:p.Sm)(a7:p.decls.length<=100000)(i:Nat)(d:Decl)(hd:p.decls[i]?=some d)(hk:d.kind=1\/d.kind=2)(a5:∀s,s∈d.sigs->d.A1.length+s.A1.length<=sm) :
  Aa prog 124 [Ct p,A5 i] (Kp (Hr (B3a p i d))):=by
 have J:=h.decls.2 d (C6 hd);have a2:=A9g p d.name;have U:=C9k p h [] d.A1 (by simpa using J.A1.1) (by simp) J.A1.2;have O:=E5q p h d.A1 J.A1.1 J.A1.2 d.fields J.fields.1 J.fields.2;have a3:=F4y p a7 d.name;have I:=A6y (A8k p d.name) d.name;unfold B3a;refine cB func124 ?_;refine sR Ec ?_
 (refine sV Ec λK z=>?_;refine ci (Dx hd) ?_;apply z;clear z K)
 (refine A0.zz 2 rfl rfl ?_;refine A0.zz 5 rfl rfl (wk [(1,A5 i),(2,.A9 (Aj p) 0),(4,.box 4 0),(5,.A9 (Ar d) 0)] [(4,I5)] ?_))
 by_cases h0:findD d.name p.decls 0=(i:Int);rotate_left
 .rw[A8 h0];refine sK λE u1=>?_
  (refine sV Ec λK z=>?_;refine⟨_,.inl ⟨_,rfl,a2,rfl⟩,?_⟩;(try refine Ap h0 ?_);apply z;clear z K)
  refine tI ?_;refine sR Ec ?_;exact aR
 rw[A6 λhh=>hh h0];rw[h0]at a2;refine kC a2 Ec λE u1=>?_;refine kI u1 ?_;clear u1 E;cases hf:Sj p [] d.A1 with
 |some q =>
  rw[hf]at U;simp only[Kp,Hr,La]at U;refine sC U Ec ?_;refine kR Ec λE u1=>?_;refine A0.ff rfl (A0.kk (u1 _ _ ?_));clear u1 E;refine sK λE u1=>?_;rcases hk with k1|k2
  .refine Ak k1 Ec ?_;refine tI ?_;refine sR Ec ?_;exact aR
  .have k1:¬d.kind=1:=by omega
   refine Ak k1 Ec ?_;refine kI u1 ?_;clear u1 E;refine sR Ec ?_;refine kR Ec λE u1=>?_;refine A0.bb (A0.loop (X:=Unit) (λ_=>[(1,A5 i),(2,.A9 (Aj p) 0),(4,.box 4 0),(5,.A9 (Ar d) 0),(6,.box 6 0),(8,A5 0)]) (λ_=>[(4,I5),(6,rsC (La q))]) (λ_=>True) (λ_=>0) () trivial (by simp[sle,Ay,Ae,Ar,Aj]) (by simp[ble,A7,La]) ?_);intro _ _;refine sK λK2 u2=>?_;by_cases hl:(0:Int)<(d.sigs.length:Int)
   .refine Ak hl Ec ?_;refine A0.ss rfl ?_;simp only[A4,Ac,Af];refine u1 _ _<|sR Ec ?_;exact aR
   .refine Ak hl Ec ?_;refine A0.ss rfl ?_;simp only[A4,Ac,Af];refine u1 _ _<|sR Ec ?_;exact aR
 |none =>
  rw[hf]at U;simp only[Kp,Hr,Pc]at U;simp only;refine sC U Ec ?_;by_cases k1:d.kind=1
  .rw[A8 k1];cases hp:Np p d.A1 [] d.fields with
   |some q =>rw[hp]at O;simp only[Kp,Hr,La]at O;refine Ai k1 Ec λE u1=>?_;refine A0.tt rfl<|sC O Ec ?_;refine dR Ec 10 ?_;refine A0.ff rfl (A0.kk ?_);simp only[A4,];refine u1 _ _ ?_;clear u1 E;refine kR Ec λE u1=>?_;refine tI ?_;refine sR Ec ?_;exact aR
   |none =>
    rw[hp]at O;simp only[Kp,Hr,Pc]at O;simp only;by_cases V:d.name∈A8k p d.name
    .rw[A8 V];rw[Bj V]at I;refine Ai k1 Ec λE u1=>?_;refine A0.tt rfl<|sC O Ec ?_
     (refine sG Ec [] 10 [] λK z=>?_;refine ev ?_;refine cc a3 ?_;refine cc I ?_;apply z;clear z K)
     refine A0.tt rfl ?_
     (refine lV Ec λK z=>?_;apply z;clear z K;try simp only[A4,])
     refine u1 _ _ ?_;clear u1 E;refine kR Ec λE u1=>?_;refine tI ?_;refine sR Ec ?_;exact aR
    .rw[A6 V];rw[C9 V]at I;refine Ai k1 Ec λE u1=>?_;refine A0.tt rfl<|sC O Ec ?_
     (refine sG Ec [] 10 [] λK z=>?_;refine ev ?_;refine cc a3 ?_;refine cc I ?_;apply z;clear z K)
     refine A0.ff rfl (A0.kk ?_);simp only[A4,];refine u1 _ _ ?_;clear u1 E;refine kR Ec λE u1=>?_;refine tI ?_;refine sR Ec ?_;exact aR
  rw[A6 k1];refine Ai k1 Ec λE u1=>?_;refine A0.ff rfl (A0.kk (u1 _ _ ?_));clear u1 E;refine Ai k1 Ec λE u1=>?_;refine kI u1 ?_;clear u1 E;refine sR Ec ?_;refine A0.pp 7 1 7 rfl<|kR Ec λE u1=>?_;have a1:∀(r:F8),r=Hr (X0 p d.A1 [] d.sigs)->∀sl bx,sle sl [(4,.box 4 0),(6,.box 6 0)]->ble bx [(4,I5),(6,rsC r)]->E sl bx:=by intro r hr sl bx h1 h2;refine u1 _ _ (A0.ww h1 h2 ?_);clear u1 E;refine sR Ec ?_;rw[<-hr];exact aR
  refine A0.bb (A0.loop (X:=Nat × Option Int) (λx=>[(1,A5 i),(2,.A9 (Aj p) 0),(4,.box 4 0),(5,.A9 (Ar d) 0),(6,.box 6 0),(7,.acc 7),(8,A5 x.1)]) (λx=>[(4,I5),(6,rsC (Hr x.2)),(7,.rows 1 (Bq ((d.sigs.take x.1).map (·.name))))])
   (λx=>x.1<=d.sigs.length/\(match x.2 with|some q=>X0 p d.A1 [] d.sigs=some q|none=>X0 p d.A1 ((d.sigs.take x.1).map (·.name)) (d.sigs.drop x.1)=X0 p d.A1 [] d.sigs))
   (λx=>d.sigs.length - x.1) (0,none) ⟨by simp,by simp⟩ (by simp[sle,Ay,Ae,Ar,Aj]) (by simp[ble,A7,Bq,Hr,Pc]) ?_)
  rintro⟨j,o⟩ ⟨hj,L⟩;simp only at hj L;by_cases W:j<d.sigs.length
  .have Z:(j:Int)<(d.sigs.length:Int):=by omega
   cases o with
   |some q =>simp only at L;refine Ai Z Ec λK2 u2=>?_;refine A0.ss rfl ?_;simp only[A4,Ac,Af];exact a1 (La q) (by rw[L];rfl) _ _ sS (by simp[ble,A7,Hr])
   |none =>
    simp only at L;have hs:d.sigs[j]?=some d.sigs[j]:=Bi W;have a0:d.sigs[j]∈d.sigs:=Fq W;have dp:d.sigs.drop j=d.sigs[j]::d.sigs.drop (j+1):=Gb W;have tk:d.sigs.take (j+1)=d.sigs.take j++[d.sigs[j]]:=J0 W;have a4:=E3c p h d.A1 d.sigs[j] (a5 _ a0) J.A1.2 (J.sigs.2 _ a0);have a8:=J.sigs.1;generalize d.sigs[j]=s at*;rw[dp,X0]at L;have I:=A6y ((d.sigs.take j).map (·.name)) s.name;refine Ai Z Ec λK2 u2=>?_;refine gI u2 ?_;clear u2 K2;refine sK λK2 u2=>A0.bb<|sK λK3 u3=>?_;by_cases V:s.name∈(d.sigs.take j).map (·.name)
    .rw[A8 V]at L;rw[<-L];rw[Bj V]at I
     (refine sV Ec λK z=>?_;refine ci (D1 hs) ?_;refine⟨_,.inr ⟨_,rfl,I,rfl⟩,?_⟩;(try refine ev ?_);apply z;clear z K)
     refine tI ?_
     (refine sV Ec λK z=>?_;refine ci (D1 hs) ?_;apply z;clear z K)
     exact aR
    rw[A6 V]at L;rw[C9 V]at I
    (refine sV Ec λK z=>?_;refine ci (D1 hs) ?_;refine⟨_,.inr ⟨_,rfl,I,rfl⟩,?_⟩;(try refine ev ?_);apply z;clear z K)
    refine kI u3 ?_;clear u3 K3
    (refine sV Ec λK z=>?_;refine ci (D1 hs) ?_;refine⟨by simp,by simp only[Bc,D4];unfold lim sm at*;omega,?_⟩;(try refine ev ?_);apply z;clear z K)
    (refine lG Ec [] 8 [] λK z=>?_;refine ev ?_;refine ci (D1 hs) ?_;refine cc a4 ?_;apply z;clear z K;try simp only[A4,Ac])
    refine u2 _ _ ?_;clear u2 K2;refine lT Ec ?_;refine⟨(j+1,Mt p d.A1 s),⟨by omega,?_⟩,by simp only;omega,(by simp[sle,Ay,Ae,Ar,Aj]),?_⟩
    .simp only;cases hq:Mt p d.A1 s with
     |some q=>rw[hq]at L;exact L.symm
     |none=>rw[hq]at L;simp only;rw[tk,G0];exact L
    .simp only;rw[tk,G0];cases Mt p d.A1 s <;> simp[ble,A7,Bq,Hr,Pc,La]
  .have a6:j=d.sigs.length:=by omega
   subst a6;refine sK λK2 u2=>?_;cases o with
   |some q =>simp only at L;refine Ak B3 Ec ?_;refine A0.ss rfl ?_;simp only[A4,Ac,Af];exact a1 (La q) (by rw[L];rfl) _ _ sS (by simp[ble,A7,Hr])
   |none =>simp only at L;rw[Db,X0]at L;refine Ak B3 Ec ?_;refine A0.ss rfl ?_;simp only[A4,Ac,Af];exact a1 Pc (by rw[<-L];rfl) _ _ sS (by simp[ble,A7,Hr])
def E0j{d:Decl}(hd:d.Sm):∀u,u∈H6 d.vars->u.Sm:=by intro u E;obtain⟨v,I,rfl⟩:=Au.1 E;exact .mk _ _ _ (hd.vars.2 v I) (by simp) (by simp)
def E1b{p:Prog}(h:p.Sm){d:Decl}(hd:d.Sm):∀f,f∈Hf p d->f.Sm:=by intro f I;unfold Hf at I;obtain⟨⟨l,v⟩,E,rfl⟩:=Au.1 I;have J:=(C8p h d.name).2 l (At3 E).1;exact⟨hd.vars.2 v (At3 E).2,J.bound.subst (E0j hd)⟩
def C5x(p:Prog)(d:Decl):(Hf p d).length<=d.vars.length:=by unfold Hf;rw[Bc,Ap9];omega
abbrev Hb:List Nat:=[0,1,2,4,5,6,7,8,9,33,39,61,71,90,102]
set_option maxHeartbeats 4000000 in
def H5a(p:Prog)(h:p.Sm)(i:Nat)(d:Decl)(hd:p.decls[i]?=some d)(ac:d.vars.length+d.sig.A1.length<=sm) :
  Aa prog 125 [Ct p,A5 i] (Kp (Hr (B1t p i d))):=by
 have J:=h.decls.2 d (C6 hd);have a0:=B0d p d.name;have a7:=B9o p d.name;have a6:=E0c p h.decls.1 d.name d.sig.name;have a8:=G5f p h d J;have ad:=C5x p d;have a9:=E3c p h (Hf p d) d.sig (by omega) (E1b h J) J.sig;have ab:=J.vars.1;unfold B1t;generalize Hf p d=ev at*;generalize Em p d.name=L at*;refine cB func125 ?_;refine sR Hb ?_
 (refine sV Hb λK z=>?_;refine ci (Dx hd) ?_;apply z;clear z K)
 refine sR Hb ?_
 (refine A0.zz 2 rfl rfl ?_;refine A0.zz 5 rfl rfl (wk [(1,A5 i),(2,.A9 (Aj p) 0),(4,.box 4 0),(5,.A9 (Ar d) 0),(6,.box 6 0)] [(4,I5),(6,rsC (La d.pos))] ?_))
 refine sK λZ u1=>?_;by_cases a1:kindOf p d.name=1;rotate_left
 .rw[A8 (.inl a1)]
  (refine sG Hb [] 14 [] λK z=>?_;refine Go.Abs.ev ?_;refine⟨_,.inl ⟨_,rfl,a0,rfl⟩,?_⟩;(try refine Go.Abs.Ap a1 ?_);apply z;clear z K)
  refine tI ?_;refine sR Hb ?_;exact aR
 by_cases a2:d.vars.length=L.length;rotate_left
 .rw[A8 (.inr a2)];have O:¬(d.vars.length:Int)=(L.length:Int):=by omega
  (refine sG Hb [] 14 [] λK z=>?_;refine Go.Abs.ev ?_;refine⟨_,.inl ⟨_,rfl,a0,rfl⟩,?_⟩;(try refine Go.Abs.Ap a1 ?_);refine⟨_,.inl ⟨_,rfl,a7,rfl⟩,?_⟩;(try refine Go.Abs.Ap O ?_);apply z;clear z K)
  refine tI ?_;refine sR Hb ?_;exact aR
 rw[A6 (by rintro(hh|hh);exact hh a1;exact hh a2)]at u1 |-;have O:(d.vars.length:Int)=(L.length:Int):=by omega
 (refine sG Hb [] 14 [] λK z=>?_;refine Go.Abs.ev ?_;refine⟨_,.inl ⟨_,rfl,a0,rfl⟩,?_⟩;(try refine Go.Abs.Fm a1 O ?_);refine cc a7 ?_;apply z;clear z K)
 refine kI u1 ?_;clear u1 Z a1 a2 O;refine kR Hb λZ u1=>?_;refine A0.bb (A0.ii d.vars (X:=Unit) (λj _=>[(1,A5 i),(2,.A9 (Aj p) 0),(4,.box 4 0),(5,.A9 (Ar d) 0),(6,.box 6 0),(7,A5 j)]) (λ_ _=>[(4,I5),(6,rsC (La d.pos))])
  (λj _=>A0e p (d.vars.take j) (d.vars.drop j)=A0e p [] d.vars) () (by simp) (by simp[sle,Ay,Ae,Ar,Aj]) (by simp[ble,A7,La]) ?_ ?_)
 rotate_left
 .intro j _ s hs aa dp tk V E;rw[dp,A0e]at E;have a4:=B0d p s;have U:Aa prog 192 [.d (.slice ((Bq d.vars).take j)),Bm s] (Aw (decide (s∈d.vars.take j))):=by
   rw[Bq,<-List.map_take];exact A6y (d.vars.take j) s
  refine Ai V Hb λI u2=>?_;refine gI u2 ?_;clear u2 I;refine sK λI u2=>A0.bb ?_;by_cases b1:kindOf p s=0;rotate_left
  .rw[Bj (.inl b1),Uk]at E;rw[A8 E.symm]
   (refine sG Hb [] 18 [] λK z=>?_;refine Go.Abs.ev ?_;refine ci (Ko hs) ?_;refine⟨_,.inl ⟨_,rfl,a4,rfl⟩,?_⟩;(try refine Go.Abs.Ap b1 ?_);apply z;clear z K)
   refine A0.tt rfl<|sR Hb ?_;exact aR
  by_cases b2:s∈d.vars.take j
  .rw[Bj (.inr b2),Uk]at E;rw[A8 E.symm];rw[Bj b2]at U
   (refine sG Hb [] 18 [] λK z=>?_;refine Go.Abs.ev ?_;refine ci (Ko hs) ?_;refine⟨_,.inl ⟨_,rfl,a4,rfl⟩,?_⟩;(try refine Go.Abs.Ap b1 ?_);refine⟨A2e _,by omega,by omega,?_⟩;(try refine Go.Abs.Ap b1 ?_);refine ci (Ko hs) ?_;refine cc U ?_;apply z;clear z K)
   refine A0.tt rfl<|sR Hb ?_;exact aR
  rw[C9 (by rintro(hh|hh);exact hh b1;exact b2 hh),V8]at E;rw[C9 b2]at U
  (refine sG Hb [] 18 [] λK z=>?_;refine Go.Abs.ev ?_;refine ci (Ko hs) ?_;refine⟨_,.inl ⟨_,rfl,a4,rfl⟩,?_⟩;(try refine Go.Abs.Ap b1 ?_);refine⟨A2e _,by omega,by omega,?_⟩;(try refine Go.Abs.Ap b1 ?_);refine ci (Ko hs) ?_;refine cc U ?_;apply z;clear z K)
  refine A0.ff rfl (A0.kk (u2 _ _ ?_));clear u2 I;refine lT Hb ?_;exact⟨(),by rw[tk];exact E,(by simp[sle,Ay,Ae,Ar,Aj]),(by simp[ble,A7,La])⟩
 intro _ E;rw[Db,A0e]at E;rw[<-E,A6 (by decide)]at u1 |-;clear E;refine Ai B3 Hb λI u2=>?_;refine A0.ss rfl ?_;simp only[A4,Ac,Af];refine u1 _ _ ?_;clear u2 I u1 Z;refine sK λZ u1=>?_;by_cases a3:N1 p d.name d.sig.name=(i:Int);rotate_left
 .rw[A8 a3]
  (refine sV Hb λK z=>?_;refine⟨_,.inl ⟨_,rfl,a6,rfl⟩,?_⟩;(try refine Go.Abs.Ap a3 ?_);apply z;clear z K)
  refine tI ?_;refine sR Hb ?_;exact aR
 rw[A6 λhh=>hh a3]at u1 |-;rw[a3]at a6;refine sC a6 Hb ?_;refine kI u1 ?_;clear u1 Z;generalize hq:Mt p ev d.sig=o at*;generalize hR:D7y d o=R at*
 (refine sG Hb [] 8 [⟨[],[],[8],[8]⟩,⟨[],[],[8],[8]⟩,⟨[],[],[8],[8]⟩,⟨[],[],[8],[8]⟩,⟨[],[],[8],[8]⟩,⟨[],[],[8],[8]⟩,⟨[],[],[8],[8]⟩,⟨[8],[8],[],[]⟩] λK z=>?_;refine Go.Abs.ev ?_;refine cc a8 ?_;refine cc a9 ?_;apply z;clear z K)
 refine kR Hb λZ u1=>?_;have a5:∀(r:F8),r=Hr R->∀sl bx,sle sl [(4,.box 4 0),(8,.box 8 0)]->ble bx [(4,I5),(8,rsC r)]->Z sl bx:=by intro r hr sl bx h1 h2;refine u1 _ _ (A0.ww h1 h2 ?_);clear u1 Z;refine sR Hb ?_;rw[<-hr];exact aR
 refine A0.bb (A0.loop (X:=Nat × Option Int) (λx=>[(1,A5 i),(2,.A9 (Aj p) 0),(4,.box 4 0),(5,.A9 (Ar d) 0),(8,.box 8 0),(9,A5 x.1)]) (λx=>[(4,I5),(8,rsC (Hr x.2))])
  (λx=>x.1<=d.sig.params.length/\(match x.2 with|some q=>R=some q|none=>R=((d.sig.params.drop x.1).find? λf=>decide (f.name=d.recv)).map (·.pos)))
  (λx=>d.sig.params.length - x.1) (0,o) ⟨by simp,by cases o <;> exact hR.symm⟩ (by simp[sle,Ay,Ae,Ar,Aj]) (by simp[ble,A7,Hr]) ?_)
 rintro⟨j,o⟩ ⟨hj,E⟩;simp only at hj E;by_cases V:j<d.sig.params.length
 .have W:(j:Int)<(d.sig.params.length:Int):=by omega
  cases o with
  |some q =>simp only at E;refine Ai W Hb λI u2=>?_;refine A0.ss rfl ?_;simp only[A4,Ac,Af];exact a5 (La q) (by rw[E];rfl) _ _ sS (by simp[ble,A7,Hr])
  |none =>
   simp only at E;have hs:d.sig.params[j]?=some d.sig.params[j]:=Bi V;have dp:d.sig.params.drop j=d.sig.params[j]::d.sig.params.drop (j+1):=Gb V;have ae:=J.sig.params.1;generalize d.sig.params[j]=s at*;rw[dp,An2]at E;refine Ai W Hb λI u2=>?_;refine gI u2 ?_;clear u2 I;refine sK λI u2=>A0.bb ?_;by_cases hm:s.name=d.recv
   .rw[Bj hm]at E
    (refine sG Hb [] 9 [] λK z=>?_;refine Go.Abs.ev ?_;refine⟨by omega,_,Du hs,rfl,?_⟩;(try refine Go.Abs.Ap hm ?_);apply z;clear z K)
    refine A0.tt rfl ?_
    (refine lV Hb λK z=>?_;refine ci (Du hs) ?_;apply z;clear z K;try simp only[A4,Ac])
    refine u2 _ _ ?_;clear u2 I;refine lT Hb ?_;exact⟨(j+1,some s.pos),⟨by omega,by simpa using E⟩,by simp only;omega,(by simp[sle,Ay,Ae,Ar,Aj]),by simp[ble,A7,Hr,La]⟩
   .rw[C9 hm]at E
    (refine sG Hb [] 9 [] λK z=>?_;refine Go.Abs.ev ?_;refine⟨by omega,_,Du hs,rfl,?_⟩;(try refine Go.Abs.Ap hm ?_);apply z;clear z K)
    refine A0.ff rfl (A0.kk (u2 _ _ ?_));clear u2 I;refine lT Hb ?_;exact⟨(j+1,none),⟨by omega,E⟩,by simp only;omega,(by simp[sle,Ay,Ae,Ar,Aj]),by simp[ble,A7,Hr]⟩
 .have a':j=d.sig.params.length:=by omega
  subst a';refine Ai B3 Hb λI u2=>?_;refine A0.ss rfl ?_;simp only[A4,Ac,Af];cases o with
  |some q =>simp only at E;exact a5 (La q) (by rw[E];rfl) _ _ sS (by simp[ble,A7,Hr])
  |none =>simp only at E;rw[Db]at E;exact a5 Pc (by rw[E];rfl) _ _ sS (by simp[ble,A7,Hr])
structure Decl.Two(d:Decl):Prop where
 sigs:∀s,s∈d.sigs->d.A1.length+s.A1.length<=sm
 sig:d.vars.length+d.sig.A1.length<=sm
def Decl.Nn.two{d:Decl}(h:d.Nn):d.Two:=⟨λs hs=>by have:=(h.sigs s hs).B6n;have:=h.B6n;unfold sm;omega,by have:=h.sig.B6n;have:=h.G1i;unfold sm;omega⟩
abbrev M0:List Nat:=[0,1,2,4,5,14,27,32]
def E8r(p:Prog)(h:p.Sm)(L:p.decls.length<=100000)(i:Nat)(d:Decl)(hd:p.decls[i]?=some d)(V:d.Two):Aa prog 51 [Ct p,A5 i] (Kp (Hr (Xo p i d))):=by
 have W:=(Az.1 hd).1;have U:¬(i:Int)<0:=by omega
 have O:¬(i:Int) >= (p.decls.length:Int):=by omega
 unfold Xo;by_cases I:d.kind=1\/d.kind=2
 .rw[A8 I];have J:=F1t p h L i d hd I V.sigs;generalize Hr (B3a p i d)=r at*;refine cB func51 ?_;refine sR M0 ?_;refine Ng U O M0 λE u1=>?_;refine kI u1 ?_;clear u1 E
  (refine sV M0 λK z=>?_;refine ci (Dx hd) ?_;apply z;clear z K)
  refine sK λE u1=>?_;by_cases k1:d.kind=1
  .refine Ak k1 M0 ?_;refine tI ?_;refine sC J M0 ?_;exact aR
  .have k2:d.kind=2:=by omega
   refine Ak k2 M0 ?_;refine tI ?_;refine sC J M0 ?_;exact aR
 rw[A6 I];obtain⟨k1,k2⟩:=Vc.1 I;by_cases k3:d.kind=3
 .rw[A8 k3];have J:=H5a p h i d hd V.sig;generalize Hr (B1t p i d)=r at*;refine cB func51 ?_;refine sR M0 ?_;refine Ng U O M0 λE u1=>?_;refine kI u1 ?_;clear u1 E
  (refine sV M0 λK z=>?_;refine ci (Dx hd) ?_;apply z;clear z K)
  refine Ng k1 k2 M0 λE u1=>?_;refine kI u1 ?_;clear u1 E;refine Ai k3 M0 λE u1=>?_;refine tI ?_;refine sC J M0 ?_;exact aR
 rw[A6 k3];refine cB func51 ?_;refine sR M0 ?_;refine Ng U O M0 λE u1=>?_;refine kI u1 ?_;clear u1 E
 (refine sV M0 λK z=>?_;refine ci (Dx hd) ?_;apply z;clear z K)
 refine Ng k1 k2 M0 λE u1=>?_;refine kI u1 ?_;clear u1 E;refine Ai k3 M0 λE u1=>?_;refine kI u1 ?_;clear u1 E
 (refine sV M0 λK z=>?_;refine ci (Dx hd) ?_;apply z;clear z K)
 exact aR
abbrev Um(c:Cf):SV:=.agg [.d (.slice (C1 c.p.decls)),.d (.int .i64 c.p.main.kind),.d (.str c.p.main.name),.d (.str c.p.main.type.name),.d (.slice (Ax c.p.main.type.args)),.d (.int .i64 c.p.main.type.pos),.d (.slice (Ax c.p.main.targs)),.d (.slice (Eb c.p.main.kids)),.d (.int .i64 c.p.main.pos),.d (.bool c.strict),.d (.slice (Ag c.env)),.d (.slice (Av c.vars))]
def Fw(c:Cf):List D:=[.slice (C1 c.p.decls),.int .i64 c.p.main.kind,.str c.p.main.name,.str c.p.main.type.name,.slice (Ax c.p.main.type.args),.int .i64 c.p.main.type.pos,.slice (Ax c.p.main.targs),.slice (Eb c.p.main.kids),.int .i64 c.p.main.pos,.bool c.strict,.slice (Ag c.env),.slice (Av c.vars)]
abbrev trV(z:Ty × F8):SV:=.tuple [B7 z.1,Kp z.2]
abbrev Rf:Aq:=.cells [.d (.str []),.d .nil,.d (.int .i64 0)]
structure Cf.Sm(c:Cf):Prop where
 p:c.p.Sm
 el:c.env.length<=sm
 env:∀f,f∈c.env->f.Sm
 vl:c.vars.length<=sm
 vars:∀f,f∈c.vars->f.Sm
def B1r{p:Prog}(h:p.Sm){x:Ty}(I:x.Sm):∀f,f∈Bx p x->f.Sm:=by
 intro f E;unfold Bx at E;split at E
 .rename_i L;obtain⟨d,hd,_⟩:=Mm (by decide) L;rw[hd,Dz]at E;unfold fieldsD at E;obtain⟨g,J,rfl⟩:=Au.1 E;have:=(h.decls.2 d (P9 hd)).fields.2 g J;exact⟨this.name,this.type.subst I.arg⟩
 .simp at E
def Rp:ty0.Sm:=.mk _ _ _ (by simp) (by simp) (by simp)
variable {c:Cf}
def B1z(L:c.Sm):∀e:Ex,e.Sm->(Dk c e).1.Sm:=by
 intro e
 induction e using Ex.induct with|_ e Z=>?_
 intro J;rw[B6z];unfold A3b;split
 .unfold A3y;split
  .rename_i f O;split
   .exact Rp
   .exact(L.vars f (C6 O)).type
  .exact Rp
 split
 .unfold B4x;split
  .exact Rp
  .split
   .exact Rp
   .exact J.type
 split
 .exact Rp
 split
 .exact Rp
 .rename_i z zs I;cases E:e.kids with
  |nil=>rw[E]at I;simp at I
  |cons v vs =>
   rw[E]at I;simp only[Ck,Z2]at I;obtain⟨rfl,rfl⟩:=I;have W:=Z v (by rw[E];simp) (J.kids.2 v (by rw[E];simp));split
   .exact W
   split
   .unfold A5g;split
    .exact Rp
    .rename_i s hs;unfold Rm;split
     .exact Rp
     .have V:s∈C7 c.p c.env (Dk c v).1:=by
       unfold Pp at hs;split at hs
       .cases hs
       .rename_i s' U;split at hs
        .cases hs
        .split at hs
         .cases hs
         .split at hs
          .cases hs
          .split at hs
           .cases hs
           .cases hs;exact C6 U
      exact(A1g L.p L.env W s V).result.subst J.targs.2
   split
   .unfold Zy;split
    .exact Rp
    .split
     .rename_i f O;split
      .exact Rp
      .unfold Rm;split
       .exact Rp
       .exact(B1r L.p W f (C6 O)).type
     .exact Rp
   .unfold B4m;split
    .exact Rp
    .split
     .exact Rp
     .exact J.type
def B0r(n:Int):Aa prog 128 [A5 n] (trV (Ks n)):=by refine cB func128 ?_;refine sR [0,2,3] ?_;refine sR [0,2,3] ?_;exact aR
abbrev A4g:List Nat:=[0,1,2,3,4,5,13]
def E3y(x:Ty)(r:F8):Aa prog 133 [B7 x,Kp r] (trV (Rm (x,r))):=by
 have E:=A3c x 0 (by decide) (by decide);obtain⟨q,b,l⟩:=r;unfold Rm;simp only;refine cB func133 ?_;refine sR A4g ?_
 (refine A0.zz 2 rfl rfl ?_;refine A0.zz 3 rfl rfl (wk [(2,.A9 (Bo x) 0),(3,.A9 [.int .i64 q,.bool b,.bool l] 0),(4,.box 4 0),(5,.box 5 0)] [(4,Rf),(5,I5)] ?_))
 cases b with
 |true =>
  rw[A6 (by simp)];refine kR A4g λI u1=>?_;refine kI u1 ?_
  (refine sG A4g [] 3 gq λK z=>?_;refine ev ?_;apply z;clear z K)
  exact aR
 |false =>
  by_cases h:400<x.count 0
  .rw[A8 ⟨rfl,h⟩];refine sK λI u1=>?_
   (refine sV A4g λK z=>?_;refine⟨_,.inl ⟨_,rfl,E,rfl⟩,?_⟩;(try simp -implicitDefEqProofs only[EV,Nat.reduceEqDiff,reduceCtorEq,h]);apply z;clear z K)
   refine tI ?_;refine sR A4g ?_;exact aR
  .rw[A6 (λJ=>h J.2)];refine sK λI u1=>?_
   (refine sV A4g λK z=>?_;refine⟨_,.inl ⟨_,rfl,E,rfl⟩,?_⟩;(try simp -implicitDefEqProofs only[EV,Nat.reduceEqDiff,reduceCtorEq,h]);apply z;clear z K)
   refine kI u1 ?_
   (refine sG A4g [] 3 gq λK z=>?_;refine ev ?_;apply z;clear z K)
   exact aR
def D8t(c:Cf)(L:c.Sm)(x:Ty):Aa prog 130 [Um c,B7 x] (Aw (Ju c x)):=by
 have I:=A6w c.env x L.el;have J:=A2u c.p x 1;unfold Ju;generalize Ep c.env x=z at*;generalize Bh c.p x 1=b at*;by_cases E:z<0
 .rw[Bj E,Cj];refine cB func130 ?_;refine sR [0,1,2,3,4] ?_
  (refine sV [0,1,2,3,4] λK z=>?_;refine⟨_,.inl ⟨_,rfl,I,rfl⟩,?_⟩;(try refine Ap E ?_);refine cc J ?_;apply z;clear z K)
  exact aR
 .rw[C9 E,C3];refine cB func130 ?_;refine sR [0,1,2,3,4] ?_
  (refine sV [0,1,2,3,4] λK z=>?_;refine⟨_,.inl ⟨_,rfl,I,rfl⟩,?_⟩;(try refine Ap E ?_);apply z;clear z K)
  exact aR
def D3o(c:Cf)(L:c.Sm)(x:Ty):Aa prog 134 [Um c,B7 x] (Aw (A1h c x)):=by
 have I:=A6w c.env x L.el;have J:=A2u c.p x 2;unfold A1h;generalize Ep c.env x=z at*;generalize Bh c.p x 2=b at*;by_cases E:0<=z
 .rw[Bj E,Uk];refine cB func134 ?_;refine sR [0,1,2,3,4] ?_
  (refine sV [0,1,2,3,4] λK z=>?_;refine⟨_,.inl ⟨_,rfl,I,rfl⟩,?_⟩;(try refine Ap E ?_);apply z;clear z K)
  exact aR
 .rw[C9 E,V8];refine cB func134 ?_;refine sR [0,1,2,3,4] ?_
  (refine sV [0,1,2,3,4] λK z=>?_;refine⟨_,.inl ⟨_,rfl,I,rfl⟩,?_⟩;(try refine Ap E ?_);refine cc J ?_;apply z;clear z K)
  exact aR
abbrev Ud:List Nat:=[0,1,2,3,4,5,6,7,8,27]
def E4j(c:Cf)(I:c.Sm)(e:Ex)(hT:Aa prog 53 [Um c,D3 e] (trV (Dk c e)))(J:(Dk c e).1.Sm)(w:Ty)(O:w.Sm):Aa prog 126 [Um c,D3 e,B7 w] (Kp (Uw c w e (Dk c e))):=by
 have E:=A5w c.p I.p c.env I.el I.env (Dk c e).1 w J O;unfold Uw;generalize Dk c e=z at*;obtain⟨x,⟨q,b,l⟩⟩:=z;simp only at E J |-;cases b with
 |true =>rw[A6 (by simp)];refine cB func126 ?_;refine sR Ud ?_;refine sC hT Ud ?_;refine kR Ud λL u1=>?_;refine kI u1 ?_;refine sR Ud ?_;exact aR
 |false =>
  generalize Cv c.p c.env x w=b at*;cases b with
  |true =>rw[A6 (by simp)];refine cB func126 ?_;refine sR Ud ?_;refine sC hT Ud ?_;refine kC E Ud λL u1=>?_;refine kI u1 ?_;refine sR Ud ?_;exact aR
  |false =>rw[A8 ⟨rfl,rfl⟩];refine cB func126 ?_;refine sR Ud ?_;refine sC hT Ud ?_;refine kC E Ud λL u1=>?_;refine tI ?_;refine sR Ud ?_;exact aR
abbrev A0d:List Nat:=[0,1,2,3,4,5,10,11,12,16,34]
def D8n(c:Cf)(l:List Ex)(a1:l.length<=sm)(params:List Param)(a2:params.length=l.length)(I:∀f,f∈params->f.Sm)(names:List A2)(args:List Ty)(ha:∀u,u∈args->u.Sm)
  (hF:∀k,k∈l->∀w:Ty,w.Sm->Aa prog 126 [Um c,D3 k,B7 w] (Kp (Uw c w k (Dk c k)))) :
  Aa prog 131 [Um c,.d (.slice (Eb l)),.d (.slice (Av params)),Cc names,Cm args] (Kp (Kf c (params.map λf=>f.type.subst names args) l (l.map (Dk c)))):=by
 generalize hR:Kf c (params.map λf=>f.type.subst names args) l (l.map (Dk c))=R;refine cB func131 ?_;refine sR A0d ?_
 (refine A0.zz 5 rfl rfl (wk [(1,.d (.slice (Eb l))),(2,.d (.slice (Av params))),(3,Cc names),(4,Cm args),(5,.A9 (Fw c) 0),(10,.box 10 0)] [(10,I5)] ?_))
 refine kR A0d λK1 u1=>?_;refine A0.bb (A0.ii l (X:=Unit) (λj _=>[(1,.d (.slice (Eb l))),(2,.d (.slice (Av params))),(3,Cc names),(4,Cm args),(5,.A9 (Fw c) 0),(10,.box 10 0),(11,A5 j)]) (λ_ _=>[(10,I5)])
  (λj _=>Kf c ((params.drop j).map λf=>f.type.subst names args) (l.drop j) ((l.drop j).map (Dk c))=R) () hR (by simp[sle,Ay,Ae,Fw]) sB ?_ ?_)
 rotate_left
 .intro j _ k hk J dp tk Z E;have U:j<params.length:=by omega
  have hp:params[j]?=some params[j]:=Bi U;have L:=Fq U;have W:params.drop j=params[j]::params.drop (j+1):=Gb U;generalize params[j]=f at*;rw[dp,W,Ck,Ck,Kf]at E;have hs:=Pm names args ha f.type (I f L).type;have hf:=hF k J (f.type.subst names args) ((I f L).type.subst ha);generalize Uw c (f.type.subst names args) k (Dk c k)=r at*;refine Ai Z A0d λO u2=>?_;refine gI u2 ?_;clear u2 O;refine sK λO u2=>A0.bb ?_
  (refine sG A0d [] 15 [⟨[],[],[12],[12]⟩,⟨[],[],[12],[12]⟩,⟨[],[],[12],[12]⟩,⟨[],[],[12],[12]⟩,⟨[],[],[12],[12]⟩,⟨[],[],[12],[12]⟩,⟨[],[],[12],[12]⟩,⟨[],[],[12],[12]⟩,⟨[],[],[12],[12]⟩,⟨[],[],[12],[12]⟩,⟨[],[],[12],[12]⟩,⟨[],[],[12],[12]⟩,⟨[],[],[12],[12]⟩,⟨[],[],[12],[12]⟩,⟨[12],[12],[],[]⟩] λK z=>?_;simp -implicitDefEqProofs only[EV,Nat.reduceAdd,Nat.reduceEqDiff,Nat.reduceBEq,reduceCtorEq,A1d,Iv,W4,A9j,B8t,B8u,Fw];refine ci (G8 hk) ?_;refine ci (Du hp) ?_;refine cc hs ?_;refine cc hf ?_;apply z;clear z K)
  refine sR A0d ?_;refine A0.cond rfl (λV=>?_) (λV=>?_)
  .rw[A8 V]at E;refine sR A0d ?_;rw[<-E];exact aR
  .rw[A6 (by rw[V];simp)]at E;refine A0.kk (u2 _ _ ?_);clear u2 O;refine lT A0d ?_;exact⟨(),E,(by simp[sle,Ay,Ae,Fw]),sB⟩
 intro _ E;rw[Db]at E;have a0:R=Pc:=by rw[<-E];cases (params.drop l.length).map λf=>f.type.subst names args <;> rfl
 subst a0;refine Ai B3 A0d λO u2=>?_;refine A0.ss rfl ?_;simp only[A4,Ac,Af];refine u1 _ _<|sR A0d ?_;exact aR
variable {e:Ex} {x:Ty}
def H3k{j:Nat}{s:A3}(J:Fb (C7 c.p c.env x) e.name=j)(I:(C7 c.p c.env x)[j]?=some s):Pp c e x=if s.A1.length≠e.targs.length then .inl e.pos else
  match N7 c.p c.env e.targs with
  |some q=>.inl q
  |none=>if 0<=H5 c.p c.env s.A1 e.targs then .inl ((e.targs[(H5 c.p c.env s.A1 e.targs).toNat]?).getD default).pos else
   if e.kids.length≠s.params.length+1 then .inl e.pos else .inr s:=by
 unfold Pp;rw[J,Je,I];simp only;by_cases E:s.A1.length≠e.targs.length
 .rw[A8 (.inr E),A8 E]
 .rw[A6 (by rintro(h|h);omega;exact E h),A6 E] <;> rfl
abbrev Hy:List Nat:=[0,1,2,3,4,5,6,7,8,9,10,11,12,13,14,15,16,40,54,70,85,102]
def H1f(c:Cf)(J:c.Sm)(e:Ex)(he:e.Sm)(x:Ty)(hx:x.Sm)(am:1<=e.kids.length)
  (hF:∀k,k∈e.kids.tail->∀w:Ty,w.Sm->Aa prog 126 [Um c,D3 k,B7 w] (Kp (Uw c w k (Dk c k)))) :
  Aa prog 132 [Um c,D3 e,B7 x] (trV (A5g c e x (e.kids.tail.map (Dk c)))):=by
 have a7:=A5z c.p J.p c.env J.el J.env x hx;have ac:=Wi J.p c.env x;have aj:=A1g J.p J.env hx;have a4:=B1g (C7 c.p c.env x) e.name ac;have V:=B0r e.pos;have ak:=he.targs.1;have a8:=@H3k c e x;generalize hR:A5g c e x (e.kids.tail.map (Dk c))=R;unfold A5g at hR;have a3:Pp c e x=.inl e.pos->R=Ks e.pos:=λh=>by rw[<-hR,h]
 have a2:Fb (C7 c.p c.env x) e.name = -1->Pp c e x=.inl e.pos:=λh=>by
  unfold Pp;rw[h];split
  .rfl
  .rw[A8 (.inl (by decide))]
 have a':=N4 (λs:A3=>decide (s.name=e.name)) (C7 c.p c.env x);unfold Fb at a8 a2;generalize C7 c.p c.env x=l at*;refine cB func132 ?_;refine sR Hy ?_
 (refine A0.zz 3 rfl rfl ?_;refine A0.zz 4 rfl rfl ?_;refine A0.zz 5 rfl rfl (wk [(3,.A9 (Fw c) 0),(4,.A9 (Cg e) 0),(5,.A9 (Bo x) 0),(6,.box 6 0),(7,.box 7 0)] [(6,Rf),(7,I5)] ?_))
 (refine sQ Hy λK z=>?_;simp -implicitDefEqProofs only[EV,Nat.reduceAdd,Nat.reduceEqDiff,Nat.reduceLeDiff,reduceCtorEq,Iw,Xz,E0y,B8t,Fw];refine⟨_,.inl ⟨_,rfl,a7,rfl⟩,?_⟩;apply z;clear z K)
 refine sC a4 Hy ?_;rcases a' with⟨h1,_⟩|⟨j,s,h1,h2,_⟩
 .rw[h1];obtain rfl:=a3 (a2 h1);refine sK λZ u1=>dR Hy 12 ?_;refine tI ?_;refine sC V Hy ?_;exact aR
 have E:=a8 h1 h2;have hs:=aj s (C6 h2);rw[h1];have a6:¬(j:Int)<0:=by omega
 by_cases a1:s.A1.length=e.targs.length;rotate_left
 .rw[A8 a1]at E;obtain rfl:=a3 E;have a0:¬(s.A1.length:Int)=(e.targs.length:Int):=by omega
  refine sK λZ u1=>?_
  (refine sG Hy [] 12 [] λK z=>?_;refine Ap a6 ?_;refine⟨by omega,_,D1 h2,rfl,?_⟩;(try refine Ap a0 ?_);apply z;clear z K)
  refine tI ?_;refine sC V Hy ?_;exact aR
 rw[A6 λhh=>hh a1]at E;have a0:(s.A1.length:Int)=(e.targs.length:Int):=by omega
 have ad:=E5s c.p J.p c.env J.el J.env s.A1 hs.A1.1 hs.A1.2 e.targs a1.symm he.targs.2;have ag:=@E5o c.p c.env s.A1 e.targs;refine sK λZ u1=>?_
 (refine sG Hy [] 12 [] λK z=>?_;refine Ap a6 ?_;refine⟨by omega,_,D1 h2,rfl,?_⟩;(try refine Ap a0 ?_);apply z;clear z K)
 refine kI u1 ?_;clear u1 Z
 (refine sV Hy λK z=>?_;refine ci (D1 h2) ?_;apply z;clear z K)
 (refine A0.zz 10 rfl rfl (wk [(3,.A9 (Fw c) 0),(4,.A9 (Cg e) 0),(6,.box 6 0),(7,.box 7 0),(10,.A9 (Dd s) 0)] [(6,Rf),(7,I5)] ?_))
 refine sK λZ u1=>?_
 (refine sQ Hy λK z=>?_;simp -implicitDefEqProofs only[EV,Nat.reduceEqDiff,reduceCtorEq,Fw];apply z;clear z K)
 refine A0.bb (A0.ii e.targs (X:=Unit) (λj _=>[(3,.A9 (Fw c) 0),(4,.A9 (Cg e) 0),(6,.box 6 0),(7,.box 7 0),(10,.A9 (Dd s) 0),(11,A5 j)]) (λ_ _=>[(6,Rf),(7,I5)])
  (λj _=>N7 c.p c.env (e.targs.drop j)=N7 c.p c.env e.targs) () (by simp) (by simp[sle,Ay,Ae,Fw,Cg,Dd]) sB ?_ ?_)
 rotate_left
 .intro j _ d hd aa dp tk af W;have I:=A8p c.p J.p c.env J.el J.env d (he.targs.2 d aa);rw[dp,N7]at W;refine sK λK2 u2=>?_
  (refine sQ Hy λK z=>?_;simp -implicitDefEqProofs only[EV,Nat.reduceEqDiff,reduceCtorEq,M1,Iv,Fw,af];apply z;clear z K)
  refine gI u2 ?_;clear u2 K2;refine sK λK2 u2=>A0.bb ?_;cases ho:Bk c.p c.env d with
  |none =>
   rw[ho]at I W;simp only[Tw]at I W
   (refine sG Hy [] 14 [] λK z=>?_;refine ev ?_;refine ci (Et hd) ?_;refine cc I ?_;apply z;clear z K)
   refine sR Hy ?_;refine A0.ff rfl (A0.kk (u2 _ _ ?_));clear u2 K2
   (refine lV Hy λK z=>?_;refine⟨by first| (unfold B4;omega)| (simp only[B4,sm]at*;omega),?_⟩;apply z;clear z K;try simp only[A4,])
   exact⟨(),W,(by simp[sle,Ay,Ae,Fw,Cg,Dd]),sB⟩
  |some q =>
   rw[ho]at I W;simp only[Tw]at I W;rw[<-W]at E;obtain rfl:R=Ks q:=by rw[<-hR,E]
   have L:=B0r q
   (refine sG Hy [] 14 [] λK z=>?_;refine ev ?_;refine ci (Et hd) ?_;refine cc I ?_;apply z;clear z K)
   refine sR Hy ?_;refine A0.tt rfl<|sC L Hy ?_;exact aR
 intro _ W;rw[Db,N7]at W;rw[<-W]at E;simp only at E;clear W;refine sK λK2 u2=>?_
 (refine sQ Hy λK z=>?_;simp -implicitDefEqProofs only[EV,Nat.reduceEqDiff,reduceCtorEq,M1,Iv,Fw,B3];apply z;clear z K)
 refine A0.ss rfl ?_;simp only[A4,Ac,Af];refine u1 _ _ ?_;clear u2 K2 u1 Z;refine sC ad Hy ?_;generalize H5 c.p c.env s.A1 e.targs=b at*;by_cases U:0<=b
 .obtain⟨u,hu⟩:=ag U a1.symm;rw[A8 U,hu,Dz]at E;obtain rfl:R=Ks u.pos:=by rw[<-hR,E]
  have L:=B0r u.pos;refine Ai U Hy λZ u1=>?_;refine tI ?_
  (refine sV Hy λK z=>?_;refine ci (Et hu) ?_;refine cc L ?_;apply z;clear z K)
  exact aR
 rw[A6 U]at E;refine Ai U Hy λZ u1=>?_;refine kI u1 ?_;clear u1 Z;have ao:=hs.params.1;by_cases ab:e.kids.length=s.params.length+1;rotate_left
 .rw[A8 ab]at E;obtain rfl:=a3 E;have O:¬(e.kids.length:Int)=(s.params.length:Int)+1:=by omega
  refine sK λZ u1=>?_
  (refine sQ Hy λK z=>?_;refine Ap O ?_;refine⟨by first| (unfold B4;omega)| (simp only[B4,sm]at*;omega),?_⟩;apply z;clear z K)
  refine tI ?_;refine sC V Hy ?_;exact aR
 rw[A6 λhh=>hh ab]at E;have O:(e.kids.length:Int)=(s.params.length:Int)+1:=by omega
 refine sK λZ u1=>?_
 (refine sQ Hy λK z=>?_;refine Ap O ?_;refine⟨by first| (unfold B4;omega)| (simp only[B4,sm]at*;omega),?_⟩;apply z;clear z K)
 refine kI u1 ?_;clear u1 Z;have ai:=R3 s.A1 hs.A1.1;have a5:=D8n c e.kids.tail (by rw[List.length_tail];omega) s.params (by rw[List.length_tail];omega) hs.params.2 (s.A1.map (·.name)) e.targs he.targs.2 hF;have ae:=Pm (s.A1.map (·.name)) e.targs he.targs.2 s.result hs.result;rw[E]at hR;simp only at hR;have a9:=E3y (s.result.subst (s.A1.map (·.name)) e.targs) (Kf c (s.params.map λf=>f.type.subst (s.A1.map (·.name)) e.targs) e.kids.tail (e.kids.tail.map (Dk c)));have ah:R=Rm (s.result.subst (s.A1.map (·.name)) e.targs,Kf c (s.params.map λf=>f.type.subst (s.A1.map (·.name)) e.targs) e.kids.tail (e.kids.tail.map (Dk c))):=hR.symm;rw[<-ah]at a9;have hex:Eb e.kids.tail=((Eb e.kids).take e.kids.length).drop 1:=by rw[Aj1 (by rw[C3c];exact Bs _),Pt,Pt,<-List.map_drop,List.drop_one]
 rw[hex]at a5;generalize Kf c (s.params.map λf=>f.type.subst (s.A1.map (·.name)) e.targs) e.kids.tail (e.kids.tail.map (Dk c))=r at*;obtain⟨rt,rr⟩:=R
 (refine sV Hy λK z=>?_;refine⟨_,.inl ⟨_,rfl,ai,rfl⟩,?_⟩;apply z;clear z K)
 (refine sG Hy [] 11 [⟨[],[],[16],[16]⟩,⟨[],[],[16],[16]⟩,⟨[],[],[16],[16]⟩,⟨[],[],[16],[16]⟩,⟨[],[],[16],[16]⟩,⟨[],[],[16],[16]⟩,⟨[],[],[16],[16]⟩,⟨[],[],[16],[16]⟩,⟨[],[],[16],[16]⟩,⟨[],[],[16],[16]⟩,⟨[16],[16],[],[]⟩] λK z=>?_;refine ev ?_;refine⟨E3v _,by omega,by omega,?_⟩;refine cc a5 ?_;apply z;clear z K)
 (refine sG Hy [] 10 [] λK z=>?_;refine ev ?_;refine cc ae ?_;refine cc a9 ?_;apply z;clear z K)
 exact aR
def G2p(h:Hj c.vars e.name = -1):A3y c e=Ks e.pos:=by
 unfold A3y;rw[h];split
 .rw[A8 (by decide)]
 .rfl
def H3c{r:F8}(hs:Ju c x=true)(h:Hj (Bx c.p x) e.name = -1):Zy c e x r=Ks e.pos:=by
 unfold Zy;rw[A6 (by rw[hs];simp),h];split
 .rw[A8 (by decide)]
 .rfl
def E4c(h:Ju c x=true):Bh c.p x 1=true:=by unfold Ju at h;rw[Bb]at h;exact h.2
def G7p(h:¬ 0<=Ep c.env x):A0x c x=x:=by unfold A0x Cs;rw[A8 (by omega)];rfl
def G2e{f:Ah}(h:0<=Ep c.env x)(E:c.env[(Ep c.env x).toNat]?=some f):A0x c x=f.bound:=by unfold A0x Cs;rw[A6 (by omega),E];rfl
abbrev Bp:List Nat:=[0,1,2,3,4,5,6,7,8,9,10,11,12,13,14,15,16,19,24,35,50,61,82,117,133,138,147,151,164,174,199,205,212,240]
def C7h(c:Cf)(O:c.Sm):∀e:Ex,e.Sm->Aa prog 53 [Um c,D3 e] (trV (Dk c e)):=by
 intro e
 induction e using Ex.induct with|_ e ih=>?_
 intro he;have I:=B0r e.pos;have hF:∀k,k∈e.kids->∀w:Ty,w.Sm->Aa prog 126 [Um c,D3 k,B7 w] (Kp (Uw c w k (Dk c k))):=λk hk w hw =>E4j c O k (ih k hk (he.kids.2 k hk)) (B1z O k (he.kids.2 k hk)) w hw
 have aj:=he.kids.1;have ak:=O.vl;rw[B6z];generalize E:A3b c e (e.kids.map (Dk c))=R;unfold A3b at E;refine cB func53 ?_;refine sR Bp ?_
 (refine A0.zz 2 rfl rfl ?_;refine A0.zz 3 rfl rfl (wk [(2,.A9 (Fw c) 0),(3,.A9 (Cg e) 0),(4,.box 4 0),(5,.box 5 0)] [(4,Rf),(5,I5)] ?_))
 by_cases k1:e.kind=1
 .rw[A8 k1]at E;have d1:=Bj k1;refine sK λJ u1=>?_
  (refine sQ Bp λK z=>?_;simp -implicitDefEqProofs only[EV,Nat.reduceEqDiff,reduceCtorEq,Ih,Iv,Fw,d1];apply z;clear z K)
  refine tI ?_;refine kR Bp λK2 u2=>?_;refine A0.bb (A0.ii c.vars (X:=Unit) (λj _=>[(2,.A9 (Fw c) 0),(3,.A9 (Cg e) 0),(4,.box 4 0),(5,.box 5 0),(6,A5 j)]) (λ_ _=>[(4,Rf),(5,I5)])
   (λj _=>∀y,y∈c.vars.take j->(λf:Param=>decide (f.name=e.name)) y=false) () (by simp) (by simp[sle,Ay,Ae,Fw,Cg]) sB ?_ ?_)
  rotate_left
  .intro j _ d hd ad dp tk a' hI;refine sK λK3 u3=>?_
   (refine sQ Bp λK z=>?_;simp -implicitDefEqProofs only[EV,Nat.reduceEqDiff,reduceCtorEq,W4,A9j,B8u,B8t,Fw,a'];apply z;clear z K)
   refine gI u3 ?_;clear u3 K3;refine sK λK3 u3=>A0.bb ?_;by_cases hn:d.name=e.name
   .have a8:Hj c.vars e.name=j:=Tt hd (by simp[hn]) hI;have ag:¬(j:Int)<0:=by omega
    obtain rfl:R=(d.type,Pc):=by rw[<-E];unfold A3y;rw[a8,Je,hd];simp only;rw[A6 ag]
    have dn:=Bj hn
    (refine sG Bp [] 8 [] λK z=>?_;refine ev ?_;refine⟨by omega,_,Du hd,rfl,?_⟩;(try refine Ap dn ?_);apply z;clear z K)
    refine A0.tt rfl ?_
    (refine sV Bp λK z=>?_;refine ci (Du hd) ?_;apply z;clear z K)
    exact aR
   ·(refine sG Bp [] 8 [] λK z=>?_;refine ev ?_;refine⟨by omega,_,Du hd,rfl,?_⟩;(try refine Ap hn ?_);apply z;clear z K)
    refine A0.ff rfl (A0.kk (u3 _ _ ?_));clear u3 K3
    (refine lV Bp λK z=>?_;refine⟨by first| (unfold B4;omega)| (simp only[B4,sm]at*;omega),?_⟩;apply z;clear z K;try simp only[A4,])
    refine⟨(),?_,(by simp[sle,Ay,Ae,Fw,Cg]),sB⟩;intro y hy;rw[tk,Bz]at hy;rcases hy with hy|hy
    .exact hI y hy
    .simp only[U0]at hy;subst hy;exact C9 hn
  intro _ hI;rw[Ci]at hI;obtain rfl:R=Ks e.pos:=by rw[<-E];exact G2p (Tg hI)
  refine sK λK3 u3=>?_
  (refine sQ Bp λK z=>?_;simp -implicitDefEqProofs only[EV,Nat.reduceEqDiff,reduceCtorEq,W4,A9j,B8u,B8t,Fw,B3];apply z;clear z K)
  refine A0.ss rfl ?_;simp only[A4,Ac,Af];refine u2 _ _<|sC I Bp ?_;exact aR
 rw[A6 k1]at E;refine sK λJ u1=>?_
 (refine sQ Bp λK z=>?_;simp -implicitDefEqProofs only[EV,Nat.reduceEqDiff,reduceCtorEq,Ih,Iv,Fw,k1];apply z;clear z K)
 refine kI u1 ?_;clear u1 J;by_cases k3:e.kind=3
 .rw[A8 k3]at E;unfold B4x at E;have d3:=Bj k3;have U:=A8p c.p O.p c.env O.el O.env e.type he.type;have hst:=D8t c O e.type;refine Ai d3 Bp λJ u1=>?_;refine tI ?_;cases ho:Bk c.p c.env e.type with
  |some q =>rw[ho]at U E;simp only[Tw]at U E;have a2:=B0r q;subst E;refine sC U Bp ?_;refine kR Bp λK2 u2=>?_;refine tI ?_;refine sC a2 Bp ?_;exact aR
  |none =>
   rw[ho]at U E;simp only[Tw]at U E;refine sC U Bp ?_;refine kR Bp λK2 u2=>?_;refine kI u2 ?_;clear u2 K2;rcases Eu (Ju c e.type)with hs|hs
   rotate_left
   .rw[A8 (.inl hs)]at E;subst E;rw[hs]at hst;refine sK λK2 u2=>?_
    (refine sG Bp [] 15 [] λK z=>?_;refine ev ?_;refine cc hst ?_;apply z;clear z K)
    refine tI ?_;refine sC I Bp ?_;exact aR
   have a3:=B5x c.p O.p e.type he.type (E4c hs);rw[hs]at hst;by_cases hl:(Bx c.p e.type).length=e.kids.length;rotate_left
   .rw[A8 (.inr hl)]at E;subst E;have a6:¬((Bx c.p e.type).length:Int)=(e.kids.length:Int):=by omega
    refine sK λK2 u2=>?_
    (refine sG Bp [] 15 [] λK z=>?_;refine ev ?_;refine cc hst ?_;refine⟨_,.inl ⟨_,rfl,a3,rfl⟩,?_⟩;(try refine Ap a6 ?_);apply z;clear z K)
    refine tI ?_;refine sC I Bp ?_;exact aR
   rw[A6 (by rw[hs];simp[hl])]at E;have a6:((Bx c.p e.type).length:Int)=(e.kids.length:Int):=by omega
   have ab:=D8n c e.kids aj (Bx c.p e.type) hl (B1r O.p he.type) [] [] (by simp) hF;have af:((Bx c.p e.type).map λf=>f.type.subst [] [])=(Bx c.p e.type).map (·.type):=Ie λf _=>A2w f.type;rw[af]at ab;subst E;generalize Kf c ((Bx c.p e.type).map (·.type)) e.kids (e.kids.map (Dk c))=r at*;refine sK λK2 u2=>?_
   (refine sG Bp [] 15 [] λK z=>?_;refine ev ?_;refine cc hst ?_;refine⟨_,.inl ⟨_,rfl,a3,rfl⟩,?_⟩;(try refine Ap a6 ?_);apply z;clear z K)
   refine kI u2 ?_;clear u2 K2
   (refine sG Bp [] 11 [] λK z=>?_;refine ev ?_;refine cc a3 ?_;refine cc ab ?_;apply z;clear z K)
   exact aR
 rw[A6 k3]at E;refine Ai k3 Bp λJ u1=>?_;refine kI u1 ?_;clear u1 J;by_cases k2:e.kind≠2/\e.kind≠4/\e.kind≠5
 .rw[A8 k2]at E;subst E;obtain⟨n2,n4,n5⟩:=k2;refine kR3 n2 n4 n5 Bp λJ u1=>?_;refine tI ?_;refine sC I Bp ?_;exact aR
 rw[A6 k2]at E;have kk:e.kind=2\/e.kind=4\/e.kind=5:=by omega
 have ai:e.kids=[]\/∃v vs,e.kids=v::vs:=by
  cases e.kids with
  |nil=>exact .inl rfl
  |cons v vs=>exact .inr ⟨v,vs,rfl⟩
 rcases ai with W|⟨v,vs,W⟩
 .rw[W]at E;simp only[G3]at E;subst E;have a1:(e.kids.length:Int)=0:=by rw[W];rfl
  rcases kk with k|k|k
  .have e2:=Bj k;refine sK λJ u1=>?_
   (refine sQ Bp λK z=>?_;simp -implicitDefEqProofs only[EV,Nat.reduceEqDiff,reduceCtorEq,Ih,A1d,Iv,M5,e2,a1];apply z;clear z K)
   refine tI ?_;refine sC I Bp ?_;exact aR
  .have n2:¬e.kind=2:=by omega
   have e4:=Bj k;refine sK λJ u1=>?_
   (refine sQ Bp λK z=>?_;simp -implicitDefEqProofs only[EV,Nat.reduceEqDiff,reduceCtorEq,Ih,A1d,Iv,M5,n2,e4,a1];apply z;clear z K)
   refine tI ?_;refine sC I Bp ?_;exact aR
  .have n2:¬e.kind=2:=by omega
   have n4:¬e.kind=4:=by omega
   have e5:=Bj k;refine sK λJ u1=>?_
   (refine sQ Bp λK z=>?_;simp -implicitDefEqProofs only[EV,Nat.reduceEqDiff,reduceCtorEq,Ih,A1d,Iv,M5,n2,n4,e5,a1];apply z;clear z K)
   refine tI ?_;refine sC I Bp ?_;exact aR
 .have a1:¬(e.kids.length:Int)=0:=by rw[W];simp only[Bg];omega
  have h0:e.kids[0]?=some v:=by rw[W];rfl
  have a9:v∈e.kids:=by rw[W];simp
  have hT:=ih v a9 (he.kids.2 v a9);have a4:=B1z O v (he.kids.2 v a9);have U:=A8p c.p O.p c.env O.el O.env e.type he.type;have a0:=H1f c O e he (Dk c v).1 a4 (by rw[W];simp) λk hk w hw=>hF k (List.mem_of_mem_tail hk) w hw;have ae:e.kids.tail=vs:=by rw[W];rfl
  rw[ae]at a0;rw[W]at E;clear W;simp only[Ck]at E;generalize Dk c v=z at*;obtain⟨x,⟨q,b,lg⟩⟩:=z;simp only at E a4 a0;have a5:=λf:Param=>E3y f.type ⟨q,b,lg⟩;rcases kk with k|k|k
  .have e2:=Bj k;refine sK λJ u1=>?_
   (refine sQ Bp λK z=>?_;simp -implicitDefEqProofs only[EV,Nat.reduceEqDiff,reduceCtorEq,Ih,A1d,Iv,M5,e2,a1];apply z;clear z K)
   refine kI u1 ?_;clear u1 J
   (refine sG Bp [] 12 gc λK z=>?_;refine ev ?_;refine cj (G8 h0) ?_;refine cc hT ?_;apply z;clear z K)
   (refine A0.zz 9 rfl rfl ?_;refine A0.zz 10 rfl rfl (wk [(2,.A9 (Fw c) 0),(3,.A9 (Cg e) 0),(4,.box 4 0),(5,.box 5 0),(9,.A9 (Bo x) 0),(10,.A9 [.int .i64 q,.bool b,.bool lg] 0)] [(4,Rf),(5,I5)] ?_))
   cases b with
   |true =>
    rw[A8 rfl]at E;subst E;refine kR Bp λJ u1=>?_;refine tI ?_
    (refine sG Bp [] 3 gq λK z=>?_;refine ev ?_;apply z;clear z K)
    exact aR
   |false =>
    rw[A6 (by simp),A8 k]at E;rw[E]at a0;obtain⟨rt,rr⟩:=R;refine kR Bp λJ u1=>?_;refine kI u1 ?_;clear u1 J;refine sK λJ u1=>?_
    (refine sQ Bp λK z=>?_;simp -implicitDefEqProofs only[EV,Nat.reduceEqDiff,reduceCtorEq,Ih,Iv,Fw,e2];apply z;clear z K)
    refine tI ?_;refine sC a0 Bp ?_;exact aR
  .have n2:¬e.kind=2:=by omega
   have e4:=Bj k;refine sK λJ u1=>?_
   (refine sQ Bp λK z=>?_;simp -implicitDefEqProofs only[EV,Nat.reduceEqDiff,reduceCtorEq,Ih,A1d,Iv,M5,n2,e4,a1];apply z;clear z K)
   refine kI u1 ?_;clear u1 J
   (refine sG Bp [] 12 gc λK z=>?_;refine ev ?_;refine cj (G8 h0) ?_;refine cc hT ?_;apply z;clear z K)
   (refine A0.zz 9 rfl rfl ?_;refine A0.zz 10 rfl rfl (wk [(2,.A9 (Fw c) 0),(3,.A9 (Cg e) 0),(4,.box 4 0),(5,.box 5 0),(9,.A9 (Bo x) 0),(10,.A9 [.int .i64 q,.bool b,.bool lg] 0)] [(4,Rf),(5,I5)] ?_))
   cases b with
   |true =>
    rw[A8 rfl]at E;subst E;refine kR Bp λJ u1=>?_;refine tI ?_
    (refine sG Bp [] 3 gq λK z=>?_;refine ev ?_;apply z;clear z K)
    exact aR
   |false =>
    rw[A6 (by simp),A6 n2,A8 k]at E;refine kR Bp λJ u1=>?_;refine kI u1 ?_;clear u1 J;refine sK λJ u1=>?_
    (refine sQ Bp λK z=>?_;simp -implicitDefEqProofs only[EV,Nat.reduceEqDiff,reduceCtorEq,Ih,Iv,Fw,n2];apply z;clear z K)
    refine kI u1 ?_;clear u1 J;refine Ai e4 Bp λJ u1=>?_;refine tI ?_;have hst:=D8t c O x;rcases Eu (Ju c x)with hs|hs
    rotate_left
    .obtain rfl:R=Ks e.pos:=by rw[<-E];unfold Zy;rw[A8 hs]
     rw[hs]at hst;refine kC hst Bp λK2 u2=>?_;refine tI ?_;refine sC I Bp ?_;exact aR
    have a3:=B5x c.p O.p x a4 (E4c hs);have am:=B2x O.p x;have ac:=@H3c c e x ⟨q,false,lg⟩ hs;have Sg:∀(j:Nat) (f:Param),Hj (Bx c.p x) e.name=j->(Bx c.p x)[j]?=some f->Zy c e x ⟨q,false,lg⟩=Rm (f.type,⟨q,false,lg⟩):=λj f h1 h2=>by unfold Zy;rw[A6 (by rw[hs];simp),h1,Je,h2];simp only;rw[A6 (by omega)]
    rw[hs]at hst;generalize Bx c.p x=L at*;refine kC hst Bp λK2 u2=>?_;refine kI u2 ?_;clear u2 K2
    (refine sV Bp λK z=>?_;refine⟨_,.inl ⟨_,rfl,a3,rfl⟩,?_⟩;apply z;clear z K)
    refine kR Bp λK2 u2=>?_;refine A0.bb (A0.ii L (X:=Unit) (λj _=>[(2,.A9 (Fw c) 0),(3,.A9 (Cg e) 0),(4,.box 4 0),(5,.box 5 0),(10,.A9 [.int .i64 q,.bool false,.bool lg] 0),(11,.d (.slice (Av L))),(12,A5 j)]) (λ_ _=>[(4,Rf),(5,I5)])
     (λj _=>∀y,y∈L.take j->(λf:Param=>decide (f.name=e.name)) y=false) () (by simp) (by simp[sle,Ay,Ae,Fw,Cg]) sB ?_ ?_)
    rotate_left
    .intro j _ d hd ad dp tk a' hI;refine sK λK3 u3=>?_
     (refine sQ Bp λK z=>?_;simp -implicitDefEqProofs only[EV,Nat.reduceEqDiff,reduceCtorEq,W4,A9j,B8u,B8t,Fw,a'];apply z;clear z K)
     refine gI u3 ?_;clear u3 K3;refine sK λK3 u3=>A0.bb ?_;by_cases hn:d.name=e.name
     .have a8:Hj L e.name=j:=Tt hd (by simp[hn]) hI;have a5:=a5 d;rw[<-Sg j d a8 hd,E]at a5;obtain⟨rt,rr⟩:=R;have dn:=Bj hn
      (refine sG Bp [] 7 [] λK z=>?_;refine ev ?_;refine⟨by omega,_,Du hd,rfl,?_⟩;(try refine Ap dn ?_);apply z;clear z K)
      refine A0.tt rfl ?_
      (refine sG Bp [] 9 [] λK z=>?_;refine ev ?_;refine ci (Du hd) ?_;refine cc a5 ?_;apply z;clear z K)
      exact aR
     ·(refine sG Bp [] 7 [] λK z=>?_;refine ev ?_;refine⟨by omega,_,Du hd,rfl,?_⟩;(try refine Ap hn ?_);apply z;clear z K)
      refine A0.ff rfl (A0.kk (u3 _ _ ?_));clear u3 K3
      (refine lV Bp λK z=>?_;refine⟨by first| (unfold B4;omega)| (simp only[B4,sm]at*;omega),?_⟩;apply z;clear z K;try simp only[A4,])
      refine⟨(),?_,(by simp[sle,Ay,Ae,Fw,Cg]),sB⟩;intro y hy;rw[tk,Bz]at hy;rcases hy with hy|hy
      .exact hI y hy
      .simp only[U0]at hy;subst hy;exact C9 hn
    intro _ hI;rw[Ci]at hI;obtain rfl:R=Ks e.pos:=by rw[<-E];exact ac (Tg hI)
    refine sK λK3 u3=>?_
    (refine sQ Bp λK z=>?_;simp -implicitDefEqProofs only[EV,Nat.reduceEqDiff,reduceCtorEq,W4,A9j,B8u,B8t,Fw,B3];apply z;clear z K)
    refine A0.ss rfl ?_;simp only[A4,Ac,Af];refine u2 _ _<|sC I Bp ?_;exact aR
  .have n2:¬e.kind=2:=by omega
   have n4:¬e.kind=4:=by omega
   have e5:=Bj k;refine sK λJ u1=>?_
   (refine sQ Bp λK z=>?_;simp -implicitDefEqProofs only[EV,Nat.reduceEqDiff,reduceCtorEq,Ih,A1d,Iv,M5,n2,n4,e5,a1];apply z;clear z K)
   refine kI u1 ?_;clear u1 J
   (refine sG Bp [] 12 gc λK z=>?_;refine ev ?_;refine cj (G8 h0) ?_;refine cc hT ?_;apply z;clear z K)
   (refine A0.zz 9 rfl rfl ?_;refine A0.zz 10 rfl rfl (wk [(2,.A9 (Fw c) 0),(3,.A9 (Cg e) 0),(4,.box 4 0),(5,.box 5 0),(9,.A9 (Bo x) 0),(10,.A9 [.int .i64 q,.bool b,.bool lg] 0)] [(4,Rf),(5,I5)] ?_))
   cases b with
   |true =>
    rw[A8 rfl]at E;subst E;refine kR Bp λJ u1=>?_;refine tI ?_
    (refine sG Bp [] 3 gq λK z=>?_;refine ev ?_;apply z;clear z K)
    exact aR
   |false =>
    rw[A6 (by simp),A6 n2,A6 n4]at E;unfold B4m at E;refine kR Bp λJ u1=>?_;refine kI u1 ?_;clear u1 J;refine sK λJ u1=>?_
    (refine sQ Bp λK z=>?_;simp -implicitDefEqProofs only[EV,Nat.reduceEqDiff,reduceCtorEq,Ih,Iv,Fw,n2];apply z;clear z K)
    refine kI u1 ?_;clear u1 J;refine Ai n4 Bp λJ u1=>?_;refine kI u1 ?_;clear u1 J;cases ho:Bk c.p c.env e.type with
    |some n =>rw[ho]at U E;simp only[Tw]at U E;have a2:=B0r n;subst E;refine sC U Bp ?_;refine kR Bp λJ u1=>?_;refine tI ?_;refine sC a2 Bp ?_;exact aR
    |none =>
     rw[ho]at U E;simp only[Tw]at U E;refine sC U Bp ?_;refine kR Bp λJ u1=>?_;refine kI u1 ?_;clear u1 J;have ah:=A6w c.env x O.el;have V:=D3o c O x;have Z:=D3o c O e.type;refine sK λJ u1=>?_;rcases Eu c.strict with hst|hst
     rotate_left
     .rw[A6 (λhh=>by rw[hst]at hh;cases hh.1)]at E;subst E;refine Ak hst Bp ?_;refine A0.ff rfl (A0.kk (u1 _ _ ?_))
      (refine sG Bp [] 4 gl λK z=>?_;refine ev ?_;apply z;clear z K)
      exact aR
     .refine sR Bp ?_;refine A0.cond rfl (λ_=>?_) (λhf=>absurd (hst.symm.trans hf) (by decide));refine sR Bp ?_;refine sC ah Bp<|sK λK2 u2=>?_;by_cases h0:0<=Ep c.env x
      .obtain⟨f,hf,_⟩:=A5v (env:=c.env) (t:=x) (by omega);have a7:=G2e h0 hf;have hi:=A5w c.p O.p c.env O.el O.env e.type f.bound he.type (O.env f (C6 hf)).bound;have aa:Cv c.p c.env e.type (A0x c x)=Cv c.p c.env e.type f.bound:=by rw[a7]
       rw[<-aa]at hi;refine Ak h0 Bp ?_;refine A0.tt rfl ?_
       (refine lV Bp λK z=>?_;refine⟨h0,_,F4 hf,rfl,?_⟩;(try refine ev ?_);apply z;clear z K;try simp only[A4,])
       refine u2 _ _ ?_;clear u2 K2;rcases Eu (A1h c x)with ha|ha
       rotate_left
       .rw[A8 ⟨hst,by unfold Sq;rw[ha];rfl⟩]at E;subst E;rw[ha]at V;refine sC V Bp ?_;refine tI ?_;refine sC I Bp ?_;exact aR
       rw[ha]at V;rcases Eu (A1h c e.type)with hb|hb
       .rw[A6 (λhh=>by have:=hh.2;unfold Sq at this;rw[ha,hb]at this;cases this)]at E;subst E;rw[hb]at Z
        (refine sV Bp λK z=>?_;refine cc V ?_;refine cc Z ?_;apply z;clear z K)
        refine A0.ff rfl (A0.kk (u1 _ _ ?_))
        (refine sG Bp [] 4 gl λK z=>?_;refine ev ?_;apply z;clear z K)
        exact aR
       rw[hb]at Z;rcases Eu (Cv c.p c.env e.type (A0x c x))with hm|hm
       .rw[A6 (λhh=>by have:=hh.2;unfold Sq at this;rw[ha,hb,hm]at this;cases this)]at E;subst E;rw[hm]at hi
        (refine sV Bp λK z=>?_;refine cc V ?_;refine cc Z ?_;refine cc hi ?_;apply z;clear z K)
        refine A0.ff rfl (A0.kk (u1 _ _ ?_))
        (refine sG Bp [] 4 gl λK z=>?_;refine ev ?_;apply z;clear z K)
        exact aR
       .rw[A8 ⟨hst,by unfold Sq;rw[ha,hb,hm];rfl⟩]at E;subst E;rw[hm]at hi
        (refine sV Bp λK z=>?_;refine cc V ?_;refine cc Z ?_;refine cc hi ?_;apply z;clear z K)
        refine tI ?_;refine sC I Bp ?_;exact aR
      .have a7:=G7p h0;have hi:=A5w c.p O.p c.env O.el O.env e.type x he.type a4;have aa:Cv c.p c.env e.type (A0x c x)=Cv c.p c.env e.type x:=by rw[a7]
       rw[<-aa]at hi;refine Ak h0 Bp ?_;refine A0.ff rfl (A0.kk (u2 _ _ ?_));clear u2 K2;rcases Eu (A1h c x)with ha|ha
       rotate_left
       .rw[A8 ⟨hst,by unfold Sq;rw[ha];rfl⟩]at E;subst E;rw[ha]at V;refine sC V Bp ?_;refine tI ?_;refine sC I Bp ?_;exact aR
       rw[ha]at V;rcases Eu (A1h c e.type)with hb|hb
       .rw[A6 (λhh=>by have:=hh.2;unfold Sq at this;rw[ha,hb]at this;cases this)]at E;subst E;rw[hb]at Z
        (refine sV Bp λK z=>?_;refine cc V ?_;refine cc Z ?_;apply z;clear z K)
        refine A0.ff rfl (A0.kk (u1 _ _ ?_))
        (refine sG Bp [] 4 gl λK z=>?_;refine ev ?_;apply z;clear z K)
        exact aR
       rw[hb]at Z;rcases Eu (Cv c.p c.env e.type (A0x c x))with hm|hm
       .rw[A6 (λhh=>by have:=hh.2;unfold Sq at this;rw[ha,hb,hm]at this;cases this)]at E;subst E;rw[hm]at hi
        (refine sV Bp λK z=>?_;refine cc V ?_;refine cc Z ?_;refine cc hi ?_;apply z;clear z K)
        refine A0.ff rfl (A0.kk (u1 _ _ ?_))
        (refine sG Bp [] 4 gl λK z=>?_;refine ev ?_;apply z;clear z K)
        exact aR
       .rw[A8 ⟨hst,by unfold Sq;rw[ha,hb,hm];rfl⟩]at E;subst E;rw[hm]at hi
        (refine sV Bp λK z=>?_;refine cc V ?_;refine cc Z ?_;refine cc hi ?_;apply z;clear z K)
        refine tI ?_;refine sC I Bp ?_;exact aR
def C2s{p:Prog}(h:p.Sm)(st:Bool){d:Decl}(hd:d.Sm)(I:d.Two)(E:d.sig.params.length+1<=sm):(Na p st d).Sm:=by
 refine⟨h,?_,?_,?_,?_⟩
 .show(Hf p d++d.sig.A1).length<=sm;have:=C5x p d;have:=I.sig;rw[B6];omega
 .intro f hf;rcases Bz.1 hf with hf|hf
  .exact E1b h hd f hf
  .exact hd.sig.A1.2 f hf
 .show(⟨d.recv,B0g d,0⟩::d.sig.params:List Param).length<=sm;rw[Bg];exact E
 .intro f hf;rcases B1.1 hf with rfl|hf
  .refine⟨hd.recv,.mk _ _ _ hd.name (by simp only[H6,Bc];exact hd.vars.1) (E0j hd)⟩
  .exact hd.sig.params.2 f hf
abbrev z49:Aq:=.cells [.d .nil,.d (.int .i64 0),.d (.str []),.d (.str []),.d .nil,.d (.int .i64 0),.d .nil,.d .nil,.d (.int .i64 0),.d (.bool false),.d .nil,.d .nil]
abbrev V9:List Nat:=[0,1,2,3,5,6,7,8,9,17,36,46,900]
def D7f(p:Prog)(h:p.Sm)(st:Bool)(d:Decl)(hd:d.Sm)(h2:d.Two)(W:d.sig.params.length+1<=sm):Aa prog 127 [Ct p,Aw st,Ia d] (Um (Na p st d)):=by
 have I:=D0e p h d hd;have L:=C5x p d;have a0:=hd.vars.1;have V:=h2.sig;have e1:Ag (Na p st d).env=Ag (Hf p d)++Ag d.sig.A1:=by simp[Na,Ag]
 unfold Um;rw[e1];show Aa prog 127 [Ct p,Aw st,Ia d] (.agg [.d (.slice (C1 p.decls)),.d (.int .i64 p.main.kind),.d (.str p.main.name),.d (.str p.main.type.name),.d (.slice (Ax p.main.type.args)),.d (.int .i64 p.main.type.pos),.d (.slice (Ax p.main.targs)),.d (.slice (Eb p.main.kids)),.d (.int .i64 p.main.pos),.d (.bool st),.d (.slice (Ag (Hf p d)++Ag d.sig.A1)),.d (.slice ([[.str d.recv,.str d.name,.slice (Ax (H6 d.vars)),.int .i64 0,.int .i64 0]]++Av d.sig.params))]);have O:(Ag (Hf p d)).length<=d.vars.length:=by simpa [Ag]using L
 generalize Ag (Hf p d)=ER at*;refine cB func127 ?_;refine sR V9 ?_
 (refine A0.zz 3 rfl rfl ?_;refine A0.zz 5 rfl rfl (wk [(1,Aw st),(3,.A9 (Aj p) 0),(5,.A9 (Ar d) 0),(6,.box 6 0)] [(6,z49)] ?_))
 refine sR V9 ?_;refine A0.Rb 900 3 7 1 rfl rfl (by decide)<|kR V9 λZ u1=>?_;refine A0.bb (A0.ii d.vars (X:=Unit) (λj _=>[(1,Aw st),(3,.A9 (Aj p) 0),(5,.A9 (Ar d) 0),(6,.box 6 0),(7,.box 7 0),(8,A5 j)]) (λj _=>[(6,z49),(7,.cells [.d (.str d.name),.acc 900,.d (.int .i64 0)]),(900,.rows 3 (Ax (H6 (d.vars.take j))))])
  (λ_ _=>True) () trivial (by simp[sle,Ay,Ae,Ar,Aj]) (by simp[ble,A7,Dj,H6]) ?_ ?_)
 rotate_left
 .intro j _ s hs U dp tk J _;rw[tk];refine Ai J V9 λE u2=>?_;refine gI u2 ?_;clear u2 E;refine sK λE u2=>A0.bb ?_
  (refine lG V9 [] 9 [] λK z=>?_;refine ev ?_;refine ci (Ko hs) ?_;refine⟨by simp,by simp only[H6,Bc,D4];unfold lim sm at*;omega,?_⟩;(try refine ev ?_);apply z;clear z K;try simp only[A4,Ac])
  refine u2 _ _ ?_;clear u2 E;refine lT V9 ?_;exact⟨(),trivial,(by simp[sle,Ay,Ae,Ar,Aj]),by simp[ble,A7,Dj,H6,Bo,Ty.name,Ty.args,Ty.pos]⟩
 intro _ _;rw[Ci];refine Ai B3 V9 λE u2=>?_;refine A0.ss rfl ?_;simp only[A4,Ac,Af];refine u1 _ _ ?_;clear u2 E u1 Z
 (refine A0.Lw 900 rfl (wk [(1,Aw st),(3,.A9 (Aj p) 0),(5,.A9 (Ar d) 0),(6,.box 6 0),(7,.box 7 0)] [(6,z49),(7,.cells [.d (.str d.name),.d (.slice (Ax (H6 d.vars))),.d (.int .i64 0)])] ?_))
 refine sR V9 ?_
 (refine sG V9 [36] 6 [⟨[],[],[],[]⟩,⟨[],[],[],[]⟩,⟨[36],[36],[],[]⟩,⟨[],[],[36],[36]⟩,⟨[],[],[36],[36]⟩,⟨[],[],[36],[36]⟩] λK z=>?_;refine ev ?_;refine⟨_,_,_,_,_,rfl,I,?_⟩;(try refine ev ?_);refine⟨B9z _,by unfold lim sm at*;omega,?_⟩;(try refine ev ?_);apply z;clear z K)
 (refine A0.D7 V9 [46] (by decide +kernel) λK z=>?_;refine ev ?_;refine⟨D8y _,by unfold lim sm at*;omega,?_⟩;(try refine ev ?_);apply z;clear z K)
 (refine A0.Lw 36 rfl ?_;refine A0.Lw 46 rfl (wk [(6,.box 6 0),(9,.box 9 0)] [(6,z49),(9,.cells [.d (.slice (C1 p.decls)),.d (.int .i64 p.main.kind),.d (.str p.main.name),.d (.str p.main.type.name),.d (.slice (Ax p.main.type.args)),.d (.int .i64 p.main.type.pos),.d (.slice (Ax p.main.targs)),.d (.slice (Eb p.main.kids)),.d (.int .i64 p.main.pos),.d (.bool st),.d (.slice (ER++Ag d.sig.A1)),.d (.slice ([[.str d.recv,.str d.name,.slice (Ax (H6 d.vars)),.int .i64 0,.int .i64 0]]++Av d.sig.params))])] ?_))
 refine sR V9 ?_;exact aR
abbrev A4q:List Nat:=[0,1,2,3,6,7,25]
def H0e(p:Prog)(h:p.Sm)(st:Bool)(i:Nat)(d:Decl)(hd:p.decls[i]?=some d)(W:d.Two)(J:d.sig.params.length+1<=sm):Aa prog 52 [Ct p,Aw st,A5 i] (Kp (A1u p st d)):=by
 have a0:=(Az.1 hd).1;have V:¬(i:Int)<0:=by omega
 have U:¬(i:Int) >= (p.decls.length:Int):=by omega
 have E:=h.decls.2 d (C6 hd);have I:=C2s h st E W J;have L:=D7f p h st d E W J;have O:=E4j (Na p st d) I d.body (C7h _ I d.body E.body) (B1z I d.body E.body) d.sig.result E.sig.result;unfold A1u;generalize Uw (Na p st d) d.sig.result d.body (Dk (Na p st d) d.body)=r at*;generalize Na p st d=c at*;by_cases k3:d.kind=3
 .rw[A8 k3];have d3:=Bj k3;refine cB func52 ?_;refine sR A4q<|sK λZ u1=>?_
  (refine sQ A4q λK z=>?_;refine Fm V U ?_;refine⟨by omega,_,Dx hd,rfl,?_⟩;(try simp -implicitDefEqProofs only[EV,Nat.reduceEqDiff,reduceCtorEq,M5,d3]);apply z;clear z K)
  refine kI u1 ?_;clear u1 Z
  (refine sV A4q λK z=>?_;refine ci (Dx hd) ?_;apply z;clear z K)
  (refine sG A4q [] 9 [] λK z=>?_;refine ev ?_;refine cc L ?_;refine cc O ?_;apply z;clear z K)
  exact aR
 .rw[A6 k3];refine cB func52 ?_;refine sR A4q<|sK λZ u1=>?_
  (refine sQ A4q λK z=>?_;refine Fm V U ?_;refine⟨by omega,_,Dx hd,rfl,?_⟩;(try refine Ap k3 ?_);apply z;clear z K)
  refine tI ?_;refine sR A4q ?_;exact aR
structure Prog.Fit(p:Prog):Prop where
 sm:p.Sm
 len:p.decls.length<=100000
 two:∀d,d∈p.decls->d.Two
 par:∀d,d∈p.decls->d.sig.params.length+1<=Go.Abs.sm
def A3.C3k(s:A3)(n:Int)(U:0<=n)(h:s.count n<=2000):s.params.length<=2000:=by unfold A3.count at h;obtain⟨J,O⟩:=A5f s.A1 (n+((s.name.length / 50:Nat):Int));obtain⟨L,E⟩:=A4e s.params (C5 s.A1 (n+((s.name.length / 50:Nat):Int)));have I:=Ty.F6 s.result (D2 s.params (C5 s.A1 (n+((s.name.length / 50:Nat):Int))));have:=(E (by omega) (by omega)).1;omega
def Decl.C3k(d:Decl)(n:Int)(h0:0<=n)(h:d.count n<=2000):d.sig.params.length<=2000:=by
 unfold Decl.count at h;generalize E:n+1+((d.name.length / 50:Nat):Int)+((d.recv.length / 50:Nat):Int)=m at h;obtain⟨U,a2⟩:=A5f d.A1 m;obtain⟨Z,I⟩:=A4e d.fields (C5 d.A1 m);obtain⟨J,V⟩:=E6t d.sigs (D2 d.fields (C5 d.A1 m));obtain⟨e1,O⟩:=A2z d.vars (En d.sigs (D2 d.fields (C5 d.A1 m)));generalize W:Ix d.vars (En d.sigs (D2 d.fields (C5 d.A1 m)))=z at*;unfold Decl.S6 at h;have L:=Ex.F6 d.body (d.sig.count z);split at h
 .exact A3.C3k d.sig z (by omega) (by omega)
 .omega
def F8a:Nj J3 (λd=>d.sig.params.length<=2000):=Mw J3 Decl.count (λd=>d.sig.params.length<=2000) (λ_=>rfl) (λ_ _ _=>rfl) (λx k=>(Decl.Gt x k).1) (λx k E h=>Decl.C3k x k E h)
def Prog.X8(p:Prog)(h:p.count<=600):p.Fit:=by have I:=Prog.Nw p h;have hs:=Prog.Gt p h;refine⟨hs.1,by have:=hs.2;omega,λd hd=>(I.decls d hd).two,λd hd=>?_⟩;unfold Prog.count at h;have L:=Ex.F6 p.main 0;obtain⟨J,E⟩:=F8a p.decls (p.main.count 0);have:=(E (by omega) (by omega)).2 d hd;unfold Go.Abs.sm;omega
abbrev Pz:List Nat:=[0,1,2,4,5,6,8,13,21,27]
def G8q(p:Prog)(h:p.Fit)(st:Bool):Aa prog 20 [Ct p,Aw st] (Kp (A4y p st)):=by
 have a0:=h.sm.decls.1;have Z:(⟨p,st,[],[]⟩:Cf).Sm:=⟨h.sm,by simp,by simp,by simp,by simp⟩;have W:=C7h ⟨p,st,[],[]⟩ Z p.main h.sm.main;generalize hR:A4y p st=R;unfold A4y at hR;refine cB func20 ?_;refine sR Pz ?_
 (refine A0.zz 2 rfl rfl (wk [(1,Aw st),(2,.A9 (Aj p) 0),(4,.box 4 0)] [(4,I5)] ?_))
 refine kR Pz λK1 u1=>?_;refine A0.bb (A0.ii p.decls (X:=Unit) (λj _=>[(1,Aw st),(2,.A9 (Aj p) 0),(4,.box 4 0),(5,A5 j)]) (λ_ _=>[(4,I5)])
  (λj _=>Zg p st (p.decls.drop j) j=R) () hR (by simp[sle,Ay,Ae,Aj]) sB ?_ ?_)
 rotate_left
 .intro j _ d hd J dp tk V E;have I:=E8r p h.sm h.len j d hd (h.two d J);have U:=H0e p h.sm st j d hd (h.two d J) (h.par d J);rw[dp,Zg]at E;refine Ai V Pz λO u2=>?_;refine gI u2 ?_;clear u2 O;refine sK λO u2=>A0.bb ?_;cases ho:Xo p j d with
  |some q =>rw[ho]at I E;simp only[Kp,Hr,La]at I E;refine sC I Pz ?_;refine kR Pz λK3 L=>?_;refine A0.ff rfl (A0.kk (L _ _ ?_));clear L K3;refine sR Pz ?_;refine A0.tt rfl<|sR Pz ?_;rw[<-E];exact aR
  |none =>
   rw[ho]at I E;simp only[Kp,Hr,Pc]at I E;generalize A1u p st d=r at*;obtain⟨q,b,l⟩:=r;refine sC I Pz ?_;refine kR Pz λK3 L=>?_;refine A0.tt rfl ?_
   (refine lV Pz λK z=>?_;refine cc U ?_;apply z;clear z K;try simp only[A4,])
   refine L _ _ ?_;clear L K3;refine sR Pz ?_;cases b with
   |true =>rw[A8 rfl]at E;refine A0.tt rfl<|sR Pz ?_;rw[<-E];exact aR
   |false =>rw[A6 (by simp)]at E;refine A0.ff rfl (A0.kk (u2 _ _ ?_));clear u2 O;refine lT Pz ?_;exact⟨(),E,(by simp[sle,Ay,Ae,Aj]),sB⟩
 intro _ E;rw[Db,Zg]at E;refine Ai B3 Pz λO u2=>?_;refine A0.ss rfl ?_;simp only[A4,Ac,Af];refine u1 _ _ ?_;clear u2 O u1 K1;generalize Dk ⟨p,st,[],[]⟩ p.main=z at*;obtain⟨x,r⟩:=z;simp only at E;subst E;refine sC W Pz ?_;refine sR Pz ?_;exact aR
end Go.Abs
