import Derived.Test.YtoajimpjknbnoaaGreatDoorKV05
set_option linter.all false
set_option maxHeartbeats 4000000
set_option maxRecDepth 100000
namespace Go.iA
open Go Go.Proofs Tryz
abbrev R8:=[0,1,2,3,4,5,6,7,8,9,18,39]
def rj(p:Prog)(h:p.Sm)(d:Decl)(hd:d.Sm):Ci prog 190 [Cs p,Hw d] [] (.acc 8) [(8,.rows 5 (Ai (Fq p d)))]:=by
 have Z:=CQ h d.name;have hf:=yQ p d.name;have a2:=Ss (Dm p d.name) Z.1;have a5:=hd.vars.1;have a1:∀u,u∈Fj d.vars->u.Sm:=by intro u hu;obtain⟨v,hv,rfl⟩:=Ap.1 hu;exact .mk _ _ _ (hd.vars.2 v hv) (by simp) (by simp)
 unfold Fq;generalize hL:Dm p d.name=L at*;refine bB func190 ?_;refine sR R8 ?_;refine gA 2 rfl rfl ?_;refine gA 3 rfl rfl (wk [(2,.A8 (Ah p) 0),(3,.A8 (Am d) 0),(4,.d .nil)] [] ?_);refine sC hf R8 ?_;refine sR R8 ?_;refine A0.pp 6 3 6 rfl<|kR R8 λK1 u1=>?_;refine bA (A0.ii d.vars (X:=Unit) (λj _=>[(3,.A8 (Am d) 0),(5,.d (.slice (Ai L))),(6,.acc 6),(7,A6 j)]) (λj _=>[(6,.rows 3 (Au (Fj (d.vars.take j))))]) (λj _=>True) () trivial (by simp[sle,B0,Ae,Am]) (by simp[ble,A9,Cq,Fj]) ?_ ?_)
 rotate_left;intro j _ s hs O dp tk V _;rw[tk];refine Ag V R8 λE u2=>?_;refine gI u2 ?_;refine sK λE u2=>bA ?_;(refine lV R8 λK z=>?_;refine ci (Jj hs) ?_;refine⟨by simp,by simp only[Fj,B7,Dh];unfold lim sm at*;omega,?_⟩;(try refine ev ?_);apply z;try simp only[Aa,Af]);apply u2;refine lT R8 ?_;exact⟨(),trivial,(by simp[sle,B0,Ae,Am]),by simp[ble,A9,Cq,Fj,Bf,Ty.name,Ty.args,Ty.pos]⟩;intro _ _;rw[Ca];refine Ag B1 R8 λE u2=>?_;refine sE ?_;apply u1;refine A0.Km 6 rfl (wk [(3,.A8 (Am d) 0),(5,.d (.slice (Ai L))),(6,.d (.slice (Au (Fj d.vars))))] [] ?_);refine sR R8 ?_;refine A0.pp 8 5 8 rfl<|kR R8 λK1 u1=>?_;have a0:∀z,z∈L.zip d.vars->Ab prog 55 [Ba z.1.bound,Cm (L.map (·.name)),Cv (Fj d.vars)] (Ba (z.1.bound.subst (Ad L) (Fj d.vars))):=λz J =>Qw (L.map (·.name)) (Fj d.vars) a1 z.1.bound (Z.2 z.1 (nR J).1).bound
 refine bA (A0.ii (L.zip d.vars) (X:=Unit) (λj _=>[(3,.A8 (Am d) 0),(5,.d (.slice (Ai L))),(6,.d (.slice (Au (Fj d.vars)))),(8,.acc 8),(9,A6 j)]) (λj _=>[(8,.rows 5 (Ai (((L.zip d.vars).take j).map λz=>⟨z.2,z.1.bound.subst (Ad L) (Fj d.vars),z.1.pos⟩)))]) (λj _=>True) () trivial (by simp[sle,B0,Ae,Am]) (by simp[ble,A9,Ai]) ?_ ?_);rotate_left
 .intro j _ z J O dp tk V _;obtain⟨f,v⟩:=z;rw[xR]at J;have a4:=(Az.1 J.1).1;have a3:=(Az.1 J.2).1;have I:(j:Int)<(L.length:Int):=by omega
  have U:(j:Int)<((Fj d.vars).length:Int):=by simp only[Fj,B7];omega
  have hs:=a0 (f,v) O;simp only at hs;have a6:(L.zip d.vars).length<=sm:=by rw[rE];omega
  rw[tk];refine Dq I U R8 λE u2=>?_;refine gI u2 ?_;refine sK λE u2=>bA ?_;(refine lG R8 [] 22 [] λK z=>?_;refine ev ?_;refine ci (Jj J.2) ?_;refine ci (Fm J.1) ?_;refine cc a2 ?_;refine cc hs ?_;refine ci (Fm J.1) ?_;refine⟨by simp,by simp only[B7,Dh];unfold lim sm at*;omega,?_⟩;(try refine ev ?_);apply z;try simp only[Aa,Af]);apply u2;refine lT R8 ?_;exact⟨(),trivial,(by simp[sle,B0,Ae,Am]),by simp[ble,A9,Ai,Iz]⟩
 intro _ _;rw[Ca];have W:∀sl bx,sle sl [(8,.acc 8)]->ble bx [(8,.rows 5 (Ai ((L.zip d.vars).map λz=>⟨z.2,z.1.bound.subst (Ad L) (Fj d.vars),z.1.pos⟩)))]->K1 sl bx:=by intro sl bx h1 h2;refine u1 _ _ (A0.ww h1 h2 ?_);refine sR R8 ?_;exact A0.ret ⟨_,by rw[results190];rfl,.inl rfl,by simp[ble,A9]⟩
 refine sK λE u2=>?_;by_cases I:L.length<=d.vars.length
 .have e:(L.zip d.vars).length=L.length:=by rw[rE];omega
  rw[e];refine Ak B1 R8 ?_;refine sE ?_;exact W _ _ sS sB
 .have e:(L.zip d.vars).length=d.vars.length:=by rw[rE];omega
  rw[e];have I:(d.vars.length:Int)<(L.length:Int):=by omega
  have U:¬(d.vars.length:Int)<((Fj d.vars).length:Int):=by simp[Fj]
  refine Ee I U R8 ?_;refine sE ?_;exact W _ _ sS sB
def H2k(p:Prog)(h:p.Sm)(d:Decl)(hd:d.Sm):Ab prog 190 [Cs p,Hw d] (.d (.slice (Ai (Fq p d)))):=(rj p h d hd).pub
abbrev rsC(r:Fw):Ax:=.cells [.d (.int .i64 r.pos),.d (.bool r.bad),.d (.bool r.Dw)]
abbrev Ff:=[0,1,2,4,5,6,7,8,19,34,52,58,69,79]
def H4v(p:Prog)(h:p.Sm)(a7:p.decls.length<=100000)(i:Nat)(d:Decl)(hd:p.decls[i]?=some d)(hk:d.kind=1\/d.kind=2)(a6:∀s,s∈d.sigs->d.A1.length+s.A1.length<=sm) :Ab prog 108 [Cs p,A6 i] (Kk (Ip (Z5 p i d))):=by
 have I:=h.decls.2 d (Bs hd);have a2:=PI p d.name;have U:=ZY p h [] d.A1 (by simpa using I.A1.1) (by simp) I.A1.2;have O:=jX p h d.A1 I.A1.1 I.A1.2 d.fields I.fields.1 I.fields.2;have a3:=G8g p a7 d.name;have J:=iI (N9 p d.name) d.name;unfold Z5;refine cB func108 ?_;refine sR Ff ?_;refine sI (E6 hd) [0,1,2,4,5,6,7,8,19,34,52,58,69,79] ?_
 (refine gA 2 rfl rfl ?_;refine gA 5 rfl rfl (wk [(1,A6 i),(2,.A8 (Ah p) 0),(4,.box 4 0),(5,.A8 (Am d) 0)] [(4,J3)] ?_))
 by_cases h0:findD d.name p.decls 0=(i:Int);rotate_left
 .rw[A7 h0];refine sK λE u1=>?_
  (refine sV Ff λK z=>?_;refine E0 h0 a2 ?_;apply z)
  refine tI ?_;refine sR Ff ?_;exact aR
 rw[A5 λhh=>hh h0];rw[h0]at a2;refine kC a2 Ff λE u1=>?_;refine kI u1 ?_;cases hf:Pn p [] d.A1 with
 |some q =>
  rw[hf]at U;simp only[Kk,Ip,Lp]at U;refine sC U Ff ?_;refine kR Ff λE u1=>?_;refine dA rfl (cA (u1 _ _ ?_));refine sK λE u1=>?_;rcases hk with k1|k2;refine Ak k1 Ff ?_;refine tI ?_;refine sR Ff ?_;exact aR
  .have k1:¬d.kind=1:=by omega
   refine Ak k1 Ff ?_;refine kI u1 ?_;refine sR Ff ?_;refine kR Ff λE u1=>?_;refine bA (A0.loop (X:=Unit) (λ_=>[(1,A6 i),(2,.A8 (Ah p) 0),(4,.box 4 0),(5,.A8 (Am d) 0),(6,.box 6 0),(8,A6 0)]) (λ_=>[(4,J3),(6,rsC (Lp q))]) (λ_=>True) (λ_=>0) () trivial (by simp[sle,B0,Ae,Am,Ah]) (by simp[ble,A9,Lp]) ?_);intro _ _;refine sK λK2 u2=>?_;by_cases hl:(0:Int)<(d.sigs.length:Int);refine Ak hl Ff ?_;refine sE ?_;refine u1 _ _<|sR Ff ?_;exact aR
   refine Ak hl Ff ?_;refine sE ?_;refine u1 _ _<|sR Ff ?_;exact aR
 |none =>
  rw[hf]at U;simp only[Kk,Ip,Gx]at U;simp only;refine sC U Ff ?_;by_cases k1:d.kind=1
  .rw[A7 k1];cases hp:Kc p d.A1 [] d.fields with
   |some q =>rw[hp]at O;simp only[Kk,Ip,Lp]at O;refine Ag k1 Ff λE u1=>?_;refine eA rfl<|sC O Ff ?_;refine dR Ff 10 ?_;refine dA rfl (cA ?_);simp only[Aa,];apply u1;refine kR Ff λE u1=>?_;refine tI ?_;refine sR Ff ?_;exact aR
   |none =>
    rw[hp]at O;simp only[Kk,Ip,Gx]at O;simp only;by_cases W:d.name∈N9 p d.name
    .rw[A7 W];rw[Bn W]at J;refine Ag k1 Ff λE u1=>?_;refine eA rfl<|sC O Ff ?_
     refine sG Ff [] 10 [] λK z=>?_;refine ev ?_;refine cc a3 ?_;refine cc J ?_;apply z;refine eA rfl ?_;(refine lV Ff λK z=>?_;apply z;try simp only[Aa,]);apply u1;refine kR Ff λE u1=>?_;refine tI ?_;refine sR Ff ?_;exact aR
    .rw[A5 W];rw[Cb W]at J;refine Ag k1 Ff λE u1=>?_;refine eA rfl<|sC O Ff ?_
     refine sG Ff [] 10 [] λK z=>?_;refine ev ?_;refine cc a3 ?_;refine cc J ?_;apply z;refine dA rfl (cA ?_);simp only[Aa,];apply u1;refine kR Ff λE u1=>?_;refine tI ?_;refine sR Ff ?_;exact aR
  rw[A5 k1];refine Ag k1 Ff λE u1=>?_;refine dA rfl (cA (u1 _ _ ?_));refine Ag k1 Ff λE u1=>?_;refine kI u1 ?_;refine sR Ff ?_;refine A0.pp 7 1 7 rfl<|kR Ff λE u1=>?_;have a1:∀(r:Fw),r=Ip (Pu p d.A1 [] d.sigs)->∀sl bx,sle sl [(4,.box 4 0),(6,.box 6 0)]->ble bx [(4,J3),(6,rsC r)]->E sl bx:=by intro r hr sl bx h1 h2;refine u1 _ _ (A0.ww h1 h2 ?_);refine sR Ff ?_;rw[<-hr];exact aR
  refine bA (A0.loop (X:=Nat × Option Int) (λx=>[(1,A6 i),(2,.A8 (Ah p) 0),(4,.box 4 0),(5,.A8 (Am d) 0),(6,.box 6 0),(7,.acc 7),(8,A6 x.1)]) (λx=>[(4,J3),(6,rsC (Ip x.2)),(7,.rows 1 (Bq ((d.sigs.take x.1).map (·.name))))]) (λx=>x.1<=d.sigs.length/\(match x.2 with|some q=>Pu p d.A1 [] d.sigs=some q|none=>Pu p d.A1 ((d.sigs.take x.1).map (·.name)) (d.sigs.drop x.1)=Pu p d.A1 [] d.sigs)) (λx=>d.sigs.length - x.1) (0,none) ⟨by simp,by simp⟩ (by simp[sle,B0,Ae,Am,Ah]) (by simp[ble,A9,Bq,Ip,Gx]) ?_);rintro⟨j,o⟩ ⟨hj,L⟩;simp only at hj L;by_cases V:j<d.sigs.length
  .have Z:(j:Int)<(d.sigs.length:Int):=by omega
   cases o with
   |some q =>simp only at L;refine Ag Z Ff λK2 u2=>?_;refine sE ?_;exact a1 (Lp q) (by rw[L];rfl) _ _ sS (by simp[ble,A9,Ip])
   |none =>
    simp only at L;have hs:d.sigs[j]?=some d.sigs[j]:=Bu V;have a0:d.sigs[j]∈d.sigs:=Gc V;have dp:d.sigs.drop j=d.sigs[j]::d.sigs.drop (j+1):=H7 V;have tk:d.sigs.take (j+1)=d.sigs.take j++[d.sigs[j]]:=Kj V;have a5:=ph p h d.A1 d.sigs[j] (a6 _ a0) I.A1.2 (I.sigs.2 _ a0);have a8:=I.sigs.1;generalize d.sigs[j]=s at*;rw[dp,Pu]at L;have J:=iI ((d.sigs.take j).map (·.name)) s.name;refine Ag Z Ff λK2 u2=>?_;refine gI u2 ?_;refine sK λK2 u2=>bA<|sK λK3 u3=>?_;by_cases W:s.name∈(d.sigs.take j).map (·.name)
    rw[A7 W]at L;rw[<-L];rw[Bn W]at J;refine sV Ff λK z=>?_;refine ci (Dg hs) ?_;refine⟨_,.inr ⟨_,rfl,J,rfl⟩,?_⟩;(try refine ev ?_);apply z;refine tI ?_;refine sI (Dg hs) [0,1,2,4,5,6,7,8,19,34,52,58,69,79] ?_;exact aR;rw[A5 W]at L;rw[Cb W]at J;refine sV Ff λK z=>?_;refine ci (Dg hs) ?_;refine⟨_,.inr ⟨_,rfl,J,rfl⟩,?_⟩;(try refine ev ?_);apply z;refine kI u3 ?_;refine sV Ff λK z=>?_;refine ci (Dg hs) ?_;refine⟨by simp,by simp only[B7,Dh];unfold lim sm at*;omega,?_⟩;(try refine ev ?_);apply z;(refine lG Ff [] 8 [] λK z=>?_;refine ev ?_;refine ci (Dg hs) ?_;refine cc a5 ?_;apply z;try simp only[Aa,Af]);apply u2;refine lT Ff ?_;refine⟨(j+1,Iw p d.A1 s),⟨by omega,?_⟩,by simp only;omega,(by simp[sle,B0,Ae,Am,Ah]),?_⟩
    .simp only;cases hq:Iw p d.A1 s with
     |some q=>rw[hq]at L;exact L.symm
     |none=>rw[hq]at L;simp only;rw[tk,Gy];exact L
    simp only;rw[tk,Gy];cases Iw p d.A1 s <;> simp[ble,A9,Bq,Ip,Gx,Lp]
  .have a4:j=d.sigs.length:=by omega
   subst a4;refine sK λK2 u2=>?_;cases o with
   |some q =>simp only at L;refine Ak B1 Ff ?_;refine sE ?_;exact a1 (Lp q) (by rw[L];rfl) _ _ sS (by simp[ble,A9,Ip])
   |none =>simp only at L;rw[Dk,Pu]at L;refine Ak B1 Ff ?_;refine sE ?_;exact a1 Gx (by rw[<-L];rfl) _ _ sS (by simp[ble,A9,Ip])
def y0{d:Decl}(hd:d.Sm):∀u,u∈Fj d.vars->u.Sm:=by intro u I;obtain⟨v,E,rfl⟩:=Ap.1 I;exact .mk _ _ _ (hd.vars.2 v E) (by simp) (by simp)
def im{p:Prog}(h:p.Sm){d:Decl}(hd:d.Sm):∀f,f∈Fq p d->f.Sm:=by intro f E;unfold Fq at E;obtain⟨⟨l,v⟩,I,rfl⟩:=Ap.1 E;have J:=(CQ h d.name).2 l (nR I).1;exact⟨hd.vars.2 v (nR I).2,J.bound.subst (y0 hd)⟩
def VV(p:Prog)(d:Decl):(Fq p d).length<=d.vars.length:=by unfold Fq;rw[B7,rE];omega
abbrev I7:=[0,1,2,4,5,6,7,8,9,33,39,61,71,90,102]
abbrev zG:Ji:=⟨[],[],[8],[8]⟩
def G3y(p:Prog)(h:p.Sm)(i:Nat)(d:Decl)(hd:p.decls[i]?=some d)(ab:d.vars.length+d.sig.A1.length<=sm) :Ab prog 109 [Cs p,A6 i] (Kk (Ip (xD p i d))):=by
 have J:=h.decls.2 d (Bs hd);have a6:=yK p d.name;have a8:=yQ p d.name;have a5:=xe p h.decls.1 d.name d.sig.name;have a7:=H2k p h d J;have ac:=VV p d;have a':=ph p h (Fq p d) d.sig (by omega) (im h J) J.sig;have ae:=J.vars.1;unfold xD;generalize Fq p d=ev at*;generalize Dm p d.name=L at*;refine cB func109 ?_;refine sR I7 ?_;refine sI (E6 hd) [0,1,2,4,5,6,7,8,9,33,39,61,71,90,102] ?_;refine sR I7 ?_;refine gA 2 rfl rfl ?_;refine gA 5 rfl rfl (wk [(1,A6 i),(2,.A8 (Ah p) 0),(4,.box 4 0),(5,.A8 (Am d) 0),(6,.box 6 0)] [(4,J3),(6,rsC (Lp d.pos))] ?_);refine sK λW u1=>?_;by_cases a1:kindOf p d.name=1;rotate_left;rw[A7 (.inl a1)];refine sG I7 [] 14 [] λK z=>?_;refine Go.iA.ev ?_;refine E0 a1 a6 ?_;apply z;refine tI ?_;refine sR I7 ?_;exact aR;by_cases a2:d.vars.length=L.length;rotate_left
 .rw[A7 (.inr a2)];have V:¬(d.vars.length:Int)=(L.length:Int):=by omega
  refine sG I7 [] 14 [] λK z=>?_;refine Go.iA.ev ?_;refine E0 a1 a6 ?_;refine E0 V a8 ?_;apply z;refine tI ?_;refine sR I7 ?_;exact aR
 rw[A5 (by rintro(hh|hh);exact hh a1;exact hh a2)]at u1 |-;have V:(d.vars.length:Int)=(L.length:Int):=by omega
 refine sG I7 [] 14 [] λK z=>?_;refine Go.iA.ev ?_;refine cc2 a1 V a6 ?_;refine cc a8 ?_;apply z;refine kI u1 ?_;refine kR I7 λW u1=>?_;refine bA (A0.ii d.vars (X:=Unit) (λj _=>[(1,A6 i),(2,.A8 (Ah p) 0),(4,.box 4 0),(5,.A8 (Am d) 0),(6,.box 6 0),(7,A6 j)]) (λ_ _=>[(4,J3),(6,rsC (Lp d.pos))]) (λj _=>W9 p (d.vars.take j) (d.vars.drop j)=W9 p [] d.vars) () (by simp) (by simp[sle,B0,Ae,Am,Ah]) (by simp[ble,A9,Lp]) ?_ ?_);rotate_left
 .intro j _ s hs aa dp tk O E;rw[dp,W9]at E;have a4:=yK p s;have U:Ab prog 187 [.d (.slice ((Bq d.vars).take j)),Bo s] (Ar (decide (s∈d.vars.take j))):=by rw[Bq,<-List.map_take];exact iI (d.vars.take j) s
  refine Ag O I7 λI u2=>?_;refine gI u2 ?_;refine sK λI u2=>bA ?_;by_cases b1:kindOf p s=0;rotate_left;rw[Bn (.inl b1),Uz]at E;rw[A7 E.symm];refine sG I7 [] 18 [] λK z=>?_;refine Go.iA.ev ?_;refine ci (Jj hs) ?_;refine E0 b1 a4 ?_;apply z;refine eA rfl<|sR I7 ?_;exact aR
  by_cases b2:s∈d.vars.take j;rw[Bn (.inr b2),Uz]at E;rw[A7 E.symm];rw[Bn b2]at U;refine sG I7 [] 18 [] λK z=>?_;refine Go.iA.ev ?_;refine ci (Jj hs) ?_;refine E0 b1 a4 ?_;refine⟨LD _,by omega,by omega,?_⟩;(try refine Go.iA.Bb b1 ?_);refine ci (Jj hs) ?_;refine cc U ?_;apply z;refine eA rfl<|sR I7 ?_;exact aR
  rw[Cb (by rintro(hh|hh);exact hh b1;exact b2 hh),Wd]at E;rw[Cb b2]at U;refine sG I7 [] 18 [] λK z=>?_;refine Go.iA.ev ?_;refine ci (Jj hs) ?_;refine E0 b1 a4 ?_;refine⟨LD _,by omega,by omega,?_⟩;(try refine Go.iA.Bb b1 ?_);refine ci (Jj hs) ?_;refine cc U ?_;apply z;refine dA rfl (cA (u2 _ _ ?_));refine lT I7 ?_;exact⟨(),by rw[tk];exact E,(by simp[sle,B0,Ae,Am,Ah]),(by simp[ble,A9,Lp])⟩
 intro _ E;rw[Dk,W9]at E;rw[<-E,A5 (by decide)]at u1 |-;refine Ag B1 I7 λI u2=>?_;refine sE ?_;apply u1;refine sK λW u1=>?_;by_cases a3:N4 p d.name d.sig.name=(i:Int);rotate_left
 rw[A7 a3];refine sV I7 λK z=>?_;refine E0 a3 a5 ?_;apply z;refine tI ?_;refine sR I7 ?_;exact aR;rw[A5 λhh=>hh a3]at u1 |-;rw[a3]at a5;refine sC a5 I7 ?_;refine kI u1 ?_;generalize hq:Iw p ev d.sig=o at*;generalize hR:HL d o=R at*
 refine sG I7 [] 8 [zG,zG,zG,zG,zG,zG,zG,⟨[8],[8],[],[]⟩] λK z=>?_;refine Go.iA.ev ?_;refine cc a7 ?_;refine cc a' ?_;apply z;refine kR I7 λW u1=>?_;have a0:∀(r:Fw),r=Ip R->∀sl bx,sle sl [(4,.box 4 0),(8,.box 8 0)]->ble bx [(4,J3),(8,rsC r)]->W sl bx:=by intro r hr sl bx h1 h2;refine u1 _ _ (A0.ww h1 h2 ?_);refine sR I7 ?_;rw[<-hr];exact aR
 refine bA (A0.loop (X:=Nat × Option Int) (λx=>[(1,A6 i),(2,.A8 (Ah p) 0),(4,.box 4 0),(5,.A8 (Am d) 0),(8,.box 8 0),(9,A6 x.1)]) (λx=>[(4,J3),(8,rsC (Ip x.2))]) (λx=>x.1<=d.sig.params.length/\(match x.2 with|some q=>R=some q|none=>R=((d.sig.params.drop x.1).find? λf=>decide (f.name=d.recv)).map (·.pos))) (λx=>d.sig.params.length - x.1) (0,o) ⟨by simp,by cases o <;> exact hR.symm⟩ (by simp[sle,B0,Ae,Am,Ah]) (by simp[ble,A9,Ip]) ?_);rintro⟨j,o⟩ ⟨hj,E⟩;simp only at hj E;by_cases O:j<d.sig.params.length
 .have Z:(j:Int)<(d.sig.params.length:Int):=by omega
  cases o with
  |some q =>simp only at E;refine Ag Z I7 λI u2=>?_;refine sE ?_;exact a0 (Lp q) (by rw[E];rfl) _ _ sS (by simp[ble,A9,Ip])
  |none =>
   simp only at E;have hs:d.sig.params[j]?=some d.sig.params[j]:=Bu O;have dp:d.sig.params.drop j=d.sig.params[j]::d.sig.params.drop (j+1):=H7 O;have ad:=J.sig.params.1;generalize d.sig.params[j]=s at*;rw[dp,Y6]at E;refine Ag Z I7 λI u2=>?_;refine gI u2 ?_;refine sK λI u2=>bA ?_;by_cases hm:s.name=d.recv;rw[Bn hm]at E;refine sG I7 [] 9 [] λK z=>?_;refine Go.iA.ev ?_;refine C0 hm (Dt hs) ?_;apply z;refine eA rfl ?_;(refine lV I7 λK z=>?_;refine ci (Dt hs) ?_;apply z;try simp only[Aa,Af]);apply u2;refine lT I7 ?_;exact⟨(j+1,some s.pos),⟨by omega,by simpa using E⟩,by simp only;omega,(by simp[sle,B0,Ae,Am,Ah]),by simp[ble,A9,Ip,Lp]⟩;rw[Cb hm]at E;refine sG I7 [] 9 [] λK z=>?_;refine Go.iA.ev ?_;refine C0 hm (Dt hs) ?_;apply z;refine dA rfl (cA (u2 _ _ ?_));refine lT I7 ?_;exact⟨(j+1,none),⟨by omega,E⟩,by simp only;omega,(by simp[sle,B0,Ae,Am,Ah]),by simp[ble,A9,Ip]⟩
 .have a9:j=d.sig.params.length:=by omega
  subst a9;refine Ag B1 I7 λI u2=>?_;refine sE ?_;cases o with
  |some q =>simp only at E;exact a0 (Lp q) (by rw[E];rfl) _ _ sS (by simp[ble,A9,Ip])
  |none =>simp only at E;rw[Dk]at E;exact a0 Gx (by rw[E];rfl) _ _ sS (by simp[ble,A9,Ip])
structure Decl.AG(d:Decl):Prop where
 sigs:∀s,s∈d.sigs->d.A1.length+s.A1.length<=sm
 sig:d.vars.length+d.sig.A1.length<=sm
def Decl.Nn.two{d:Decl}(h:d.Nn):d.AG:=⟨λs hs=>by have:=(h.sigs s hs).iP;have:=h.iP;unfold sm;omega,by have:=h.sig.iP;have:=h.F8f;unfold sm;omega⟩
abbrev Sn:=[0,1,2,4,5,14,27,32]
def F9i(p:Prog)(h:p.Sm)(L:p.decls.length<=100000)(i:Nat)(d:Decl)(hd:p.decls[i]?=some d)(V:d.AG):Ab prog 40 [Cs p,A6 i] (Kk (Ip (Pm p i d))):=by
 have W:=(Az.1 hd).1;have O:¬(i:Int)<0:=by omega
 have U:¬(i:Int) >= (p.decls.length:Int):=by omega
 unfold Pm;by_cases J:d.kind=1\/d.kind=2
 .rw[A7 J];have I:=H4v p h L i d hd J V.sigs;generalize Ip (Z5 p i d)=r at*;refine cB func40 ?_;refine sR Sn ?_;refine Dq O U Sn λE u1=>?_;refine kI u1 ?_;refine sI (E6 hd) [0,1,2,4,5,14,27,32] ?_;refine sK λE u1=>?_;by_cases k1:d.kind=1;refine Ak k1 Sn ?_;refine tI ?_;refine sC I Sn ?_;exact aR
  .have k2:d.kind=2:=by omega
   refine Ak k2 Sn ?_;refine tI ?_;refine sC I Sn ?_;exact aR
 rw[A5 J];obtain⟨k1,k2⟩:=Yo.1 J;by_cases k3:d.kind=3;rw[A7 k3];have I:=G3y p h i d hd V.sig;generalize Ip (xD p i d)=r at*;refine cB func40 ?_;refine sR Sn ?_;refine Dq O U Sn λE u1=>?_;refine kI u1 ?_;refine sI (E6 hd) [0,1,2,4,5,14,27,32] ?_;refine Dq k1 k2 Sn λE u1=>?_;refine kI u1 ?_;refine Ag k3 Sn λE u1=>?_;refine tI ?_;refine sC I Sn ?_;exact aR;rw[A5 k3];refine cB func40 ?_;refine sR Sn ?_;refine Dq O U Sn λE u1=>?_;refine kI u1 ?_;refine sI (E6 hd) [0,1,2,4,5,14,27,32] ?_;refine Dq k1 k2 Sn λE u1=>?_;refine kI u1 ?_;refine Ag k3 Sn λE u1=>?_;refine kI u1 ?_;refine sI (E6 hd) [0,1,2,4,5,14,27,32] ?_;exact aR
abbrev We(c:Cd):SV:=.agg [.d (.slice (Bx c.p.decls)),.d (.int .i64 c.p.main.kind),.d (.str c.p.main.name),.d (.str c.p.main.type.name),.d (.slice (Au c.p.main.type.args)),.d (.int .i64 c.p.main.type.pos),.d (.slice (Au c.p.main.targs)),.d (.slice (Ed c.p.main.kids)),.d (.int .i64 c.p.main.pos),.d (.bool c.strict),.d (.slice (Ai c.env)),.d (.slice (Aw c.vars))]
def Fb(c:Cd):List D:=[.slice (Bx c.p.decls),.int .i64 c.p.main.kind,.str c.p.main.name,.str c.p.main.type.name,.slice (Au c.p.main.type.args),.int .i64 c.p.main.type.pos,.slice (Au c.p.main.targs),.slice (Ed c.p.main.kids),.int .i64 c.p.main.pos,.bool c.strict,.slice (Ai c.env),.slice (Aw c.vars)]
abbrev trV(z:Ty × Fw):SV:=.tuple [Ba z.1,Kk z.2]
abbrev Pw:Ax:=.cells [.d (.str []),.d .nil,.d (.int .i64 0)]
structure Cd.Sm(c:Cd):Prop where
 p:c.p.Sm
 el:c.env.length<=sm
 env:∀f,f∈c.env->f.Sm
 vl:c.vars.length<=sm
 vars:∀f,f∈c.vars->f.Sm
def wH{p:Prog}(h:p.Sm){x:Ty}(J:x.Sm):∀f,f∈Bc p x->f.Sm:=by intro f E;unfold Bc at E;split at E;rename_i I;obtain⟨d,hd,_⟩:=La (by decide) I;rw[hd,Dx]at E;unfold fieldsD at E;obtain⟨g,L,rfl⟩:=Ap.1 E;have:=(h.decls.2 d (P3 hd)).fields.2 g L;exact⟨this.name,this.type.subst J.arg⟩;simp at E
def Ik:ty0.Sm:=.mk _ _ _ (by simp) (by simp) (by simp)
variable {c:Cd}
def ML(J:c.Sm):∀e:Ex,e.Sm->(Da c e).1.Sm:=by
 intro e;induction e using Ex.induct with|_ e Z=>?_;intro L;rw[wM];unfold vD;split;unfold yF;split;rename_i f O;split;exact Ik;exact(J.vars f (Bs O)).type;exact Ik;split;unfold LI;split;exact Ik;split;exact Ik;exact L.type;split;exact Ik;split;exact Ik
 .rename_i z zs I;cases E:e.kids with
  |nil=>rw[E]at I;simp at I
  |cons v vs =>
   rw[E]at I;simp only[Cj,Ya]at I;obtain⟨rfl,rfl⟩:=I;have V:=Z v (by rw[E];simp) (L.kids.2 v (by rw[E];simp));split;exact V;split
   .unfold zE;split;exact Ik
    .rename_i s hs;unfold Qy;split;exact Ik
     .have U:s∈C3 c.p c.env (Da c v).1:=by unfold Nh at hs;split at hs;cases hs;rename_i s' W;split at hs;cases hs;split at hs;cases hs;split at hs;cases hs;split at hs;cases hs;cases hs;exact Bs W
      exact(qC J.p J.env V s U).result.subst L.targs.2
   split;unfold Zp;split;exact Ik;split;rename_i f O;split;exact Ik;unfold Qy;split;exact Ik;exact(wH J.p V f (Bs O)).type;exact Ik;unfold NI;split;exact Ik;split;exact Ik;exact L.type
def lJ(n:Int):Ab prog 112 [A6 n] (trV (M0 n)):=by refine cB func112 ?_;refine sR [0,2,3] ?_;refine sR [0,2,3] ?_;exact aR
abbrev bH:=[0,1,2,3,4,5,13]
def Sl(x:Ty)(r:Fw):Ab prog 117 [Ba x,Kk r] (trV (Qy (x,r))):=by
 have E:=wF x 0 (by decide) (by decide);obtain⟨q,b,l⟩:=r;unfold Qy;simp only;refine cB func117 ?_;refine sR bH ?_
 (refine gA 2 rfl rfl ?_;refine gA 3 rfl rfl (wk [(2,.A8 (Bf x) 0),(3,.A8 [.int .i64 q,.bool b,.bool l] 0),(4,.box 4 0),(5,.box 5 0)] [(4,Pw),(5,J3)] ?_))
 cases b with
 |true =>rw[A5 (by simp)];refine kR bH λI u1=>?_;refine kI u1 ?_;refine sG bH [] 3 gr λK z=>?_;refine ev ?_;apply z;exact aR
 |false =>by_cases h:400<x.count 0;rw[A7 ⟨rfl,h⟩];refine sK λI u1=>?_;refine sV bH λK z=>?_;refine⟨_,.inl ⟨_,rfl,E,rfl⟩,?_⟩;(try simp -implicitDefEqProofs only[EV,Nat.reduceEqDiff,reduceCtorEq,h]);apply z;refine tI ?_;refine sR bH ?_;exact aR;rw[A5 (λJ=>h J.2)];refine sK λI u1=>?_;refine sV bH λK z=>?_;refine⟨_,.inl ⟨_,rfl,E,rfl⟩,?_⟩;(try simp -implicitDefEqProofs only[EV,Nat.reduceEqDiff,reduceCtorEq,h]);apply z;refine kI u1 ?_;refine sG bH [] 3 gr λK z=>?_;refine ev ?_;apply z;exact aR
def O3(c:Cd)(J:c.Sm)(x:Ty):Ab prog 114 [We c,Ba x] (Ar (Kt c x)):=by have I:=OI c.env x J.el;have L:=aG c.p x 1;unfold Kt;generalize Fk c.env x=z at*;generalize B9 c.p x 1=b at*;by_cases E:z<0;rw[Bn E,Ch];refine cB func114 ?_;refine sR [0,1,2,3,4] ?_;refine sV [0,1,2,3,4] λK z=>?_;refine E0 E I ?_;refine cc L ?_;apply z;exact aR;rw[Cb E,C6];refine cB func114 ?_;refine sR [0,1,2,3,4] ?_;refine sV [0,1,2,3,4] λK z=>?_;refine E0 E I ?_;apply z;exact aR
def oZ(c:Cd)(J:c.Sm)(x:Ty):Ab prog 119 [We c,Ba x] (Ar (WE c x)):=by have I:=OI c.env x J.el;have L:=aG c.p x 2;unfold WE;generalize Fk c.env x=z at*;generalize B9 c.p x 2=b at*;by_cases E:0<=z;rw[Bn E,Uz];refine cB func119 ?_;refine sR [0,1,2,3,4] ?_;refine sV [0,1,2,3,4] λK z=>?_;refine E0 E I ?_;apply z;exact aR;rw[Cb E,Wd];refine cB func119 ?_;refine sR [0,1,2,3,4] ?_;refine sV [0,1,2,3,4] λK z=>?_;refine E0 E I ?_;refine cc L ?_;apply z;exact aR
abbrev Wb:=[0,1,2,3,4,5,6,7,8,27]
def UY(c:Cd)(E:c.Sm)(e:Ex)(hT:Ab prog 42 [We c,D6 e] (trV (Da c e)))(L:(Da c e).1.Sm)(w:Ty)(O:w.Sm):Ab prog 110 [We c,D6 e,Ba w] (Kk (P5 c w e (Da c e))):=by
 have I:=nJ c.p E.p c.env E.el E.env (Da c e).1 w L O;unfold P5;generalize Da c e=z at*;obtain⟨x,⟨q,b,l⟩⟩:=z;simp only at I L |-;cases b with
 |true =>rw[A5 (by simp)];refine cB func110 ?_;refine sR Wb ?_;refine sC hT Wb ?_;refine kR Wb λJ u1=>?_;refine kI u1 ?_;refine sR Wb ?_;exact aR
 |false =>
  generalize Cr c.p c.env x w=b at*;cases b with
  |true =>rw[A5 (by simp)];refine cB func110 ?_;refine sR Wb ?_;refine sC hT Wb ?_;refine kC I Wb λJ u1=>?_;refine kI u1 ?_;refine sR Wb ?_;exact aR
  |false =>rw[A7 ⟨rfl,rfl⟩];refine cB func110 ?_;refine sR Wb ?_;refine sC hT Wb ?_;refine kC I Wb λJ u1=>?_;refine tI ?_;refine sR Wb ?_;exact aR
abbrev OD:=[0,1,2,3,4,5,10,11,12,16,34]
abbrev BB:Ji:=⟨[],[],[12],[12]⟩
def dh(c:Cd)(l:List Ex)(a1:l.length<=sm)(params:List Param)(a0:params.length=l.length)(I:∀f,f∈params->f.Sm)(names:List A3)(args:List Ty)(ha:∀u,u∈args->u.Sm)
  (hF:∀k,k∈l->∀w:Ty,w.Sm->Ab prog 110 [We c,D6 k,Ba w] (Kk (P5 c w k (Da c k)))) :
  Ab prog 115 [We c,.d (.slice (Ed l)),.d (.slice (Aw params)),Cm names,Cv args] (Kk (Ka c (params.map λf=>f.type.subst names args) l (l.map (Da c)))):=by
 generalize hR:Ka c (params.map λf=>f.type.subst names args) l (l.map (Da c))=R;refine cB func115 ?_;refine sR OD ?_;refine gA 5 rfl rfl (wk [(1,.d (.slice (Ed l))),(2,.d (.slice (Aw params))),(3,Cm names),(4,Cv args),(5,.A8 (Fb c) 0),(10,.box 10 0)] [(10,J3)] ?_);refine kR OD λK1 u1=>?_;refine bA (A0.ii l (X:=Unit) (λj _=>[(1,.d (.slice (Ed l))),(2,.d (.slice (Aw params))),(3,Cm names),(4,Cv args),(5,.A8 (Fb c) 0),(10,.box 10 0),(11,A6 j)]) (λ_ _=>[(10,J3)]) (λj _=>Ka c ((params.drop j).map λf=>f.type.subst names args) (l.drop j) ((l.drop j).map (Da c))=R) () hR (by simp[sle,B0,Ae,Fb]) sB ?_ ?_);rotate_left
 .intro j _ k hk L dp tk V E;have Z:j<params.length:=by omega
  have hp:params[j]?=some params[j]:=Bu Z;have J:=Gc Z;have U:params.drop j=params[j]::params.drop (j+1):=H7 Z;generalize params[j]=f at*;rw[dp,U,Cj,Cj,Ka]at E;have hs:=Qw names args ha f.type (I f J).type;have hf:=hF k L (f.type.subst names args) ((I f J).type.subst ha);generalize P5 c (f.type.subst names args) k (Da c k)=r at*;refine Ag V OD λO u2=>?_;refine gI u2 ?_;refine sK λO u2=>bA ?_;refine sG OD [] 15 [BB,BB,BB,BB,BB,BB,BB,BB,BB,BB,BB,BB,BB,BB,⟨[12],[12],[],[]⟩] λK z=>?_;refine Bb @Fb.eq_1 ?_;refine ci (Ey hk) ?_;refine ci (Dt hp) ?_;refine cc hs ?_;refine cc hf ?_;apply z;refine sR OD ?_;refine A0.cond rfl (λhb=>?_) (λhb=>?_);rw[A7 hb]at E;refine sR OD ?_;rw[<-E];exact aR;rw[A5 (by rw[hb];simp)]at E;refine cA (u2 _ _ ?_);refine lT OD ?_;exact⟨(),E,(by simp[sle,B0,Ae,Fb]),sB⟩
 intro _ E;rw[Dk]at E;have W:R=Gx:=by rw[<-E];cases (params.drop l.length).map λf=>f.type.subst names args <;> rfl
 subst W;refine Ag B1 OD λO u2=>?_;refine sE ?_;refine u1 _ _<|sR OD ?_;exact aR
variable {e:Ex} {x:Ty}
def Oy{j:Nat}{s:A4}(J:Fo (C3 c.p c.env x) e.name=j)(I:(C3 c.p c.env x)[j]?=some s):Nh c e x=if s.A1.length≠e.targs.length then .inl e.pos else
  match P7 c.p c.env e.targs with
  |some q=>.inl q
  |none=>if 0<=Hn c.p c.env s.A1 e.targs then .inl ((e.targs[(Hn c.p c.env s.A1 e.targs).toNat]?).getD default).pos else
   if e.kids.length≠s.params.length+1 then .inl e.pos else .inr s:=by unfold Nh;rw[J,Ic,I];simp only;by_cases E:s.A1.length≠e.targs.length;rw[A7 (.inr E),A7 E];rw[A5 (by rintro(h|h);omega;exact E h),A5 E] <;> rfl
abbrev J5:=[0,1,2,3,4,5,6,7,8,9,10,11,12,13,14,15,16,40,54,70,85,102]
abbrev bC:Ji:=⟨[],[],[16],[16]⟩
def H2q(c:Cd)(L:c.Sm)(e:Ex)(he:e.Sm)(x:Ty)(hx:x.Sm)(ao:1<=e.kids.length)
  (hF:∀k,k∈e.kids.tail->∀w:Ty,w.Sm->Ab prog 110 [We c,D6 k,Ba w] (Kk (P5 c w k (Da c k)))) :
  Ab prog 116 [We c,D6 e,Ba x] (trV (zE c e x (e.kids.tail.map (Da c)))):=by
 have a5:=AH c.p L.p c.env L.el L.env x hx;have ai:=W0 L.p c.env x;have ae:=qC L.p L.env hx;have a3:=GL (C3 c.p c.env x) e.name ai;have O:=lJ e.pos;have am:=he.targs.1;have a8:=@Oy c e x;generalize hR:zE c e x (e.kids.tail.map (Da c))=R;unfold zE at hR;have a4:Nh c e x=.inl e.pos->R=M0 e.pos:=λh=>by rw[<-hR,h]
 have a2:Fo (C3 c.p c.env x) e.name = -1->Nh c e x=.inl e.pos:=λh=>by unfold Nh;rw[h];split;rfl;rw[A7 (.inl (by decide))]
 have a9:=My (λs:A4=>decide (s.name=e.name)) (C3 c.p c.env x);unfold Fo at a8 a2;generalize C3 c.p c.env x=l at*;refine cB func116 ?_;refine sR J5 ?_;refine gA 3 rfl rfl ?_;refine gA 4 rfl rfl ?_;refine gA 5 rfl rfl (wk [(3,.A8 (Fb c) 0),(4,.A8 (Ce e) 0),(5,.A8 (Bf x) 0),(6,.box 6 0),(7,.box 7 0)] [(6,Pw),(7,J3)] ?_);refine sQ J5 λK z=>?_;refine Bb @Fb.eq_1 ?_;refine E0 @Fb.eq_1 a5 ?_;apply z;refine sC a3 J5 ?_;rcases a9 with⟨h1,_⟩|⟨j,s,h1,h2,_⟩;rw[h1];obtain rfl:=a4 (a2 h1);refine sK λW u1=>dR J5 12 ?_;refine tI ?_;refine sC O J5 ?_;exact aR;have E:=a8 h1 h2;have hs:=ae s (Bs h2);rw[h1];have a6:¬(j:Int)<0:=by omega
 by_cases a1:s.A1.length=e.targs.length;rotate_left
 .rw[A7 a1]at E;obtain rfl:=a4 E;have U:¬(s.A1.length:Int)=(e.targs.length:Int):=by omega
  refine sK λW u1=>?_;refine sG J5 [] 12 [] λK z=>?_;refine Bb a6 ?_;refine C0 U (Dg h2) ?_;apply z;refine tI ?_;refine sC O J5 ?_;exact aR
 rw[A5 λhh=>hh a1]at E;have U:(s.A1.length:Int)=(e.targs.length:Int):=by omega
 have ah:=Oh c.p L.p c.env L.el L.env s.A1 hs.A1.1 hs.A1.2 e.targs a1.symm he.targs.2;have ag:=@mm c.p c.env s.A1 e.targs;refine sK λW u1=>?_;refine sG J5 [] 12 [] λK z=>?_;refine Bb a6 ?_;refine C0 U (Dg h2) ?_;apply z;refine kI u1 ?_;refine sI (Dg h2) [0,1,2,3,4,5,6,7,8,9,10,11,12,13,14,15,16,40,54,70,85,102] ?_;refine gA 10 rfl rfl (wk [(3,.A8 (Fb c) 0),(4,.A8 (Ce e) 0),(6,.box 6 0),(7,.box 7 0),(10,.A8 (Dp s) 0)] [(6,Pw),(7,J3)] ?_);refine Ag @Fb.eq_1 J5 λW u1=>?_;refine bA (A0.ii e.targs (X:=Unit) (λj _=>[(3,.A8 (Fb c) 0),(4,.A8 (Ce e) 0),(6,.box 6 0),(7,.box 7 0),(10,.A8 (Dp s) 0),(11,A6 j)]) (λ_ _=>[(6,Pw),(7,J3)]) (λj _=>P7 c.p c.env (e.targs.drop j)=P7 c.p c.env e.targs) () (by simp) (by simp[sle,B0,Ae,Fb,Ce,Dp]) sB ?_ ?_);rotate_left
 .intro j _ d hd ab dp tk ad V;have J:=FI c.p L.p c.env L.el L.env d (he.targs.2 d ab);rw[dp,P7]at V;refine Dq @Fb.eq_1 ad J5 λK2 u2=>?_;refine gI u2 ?_;refine sK λK2 u2=>bA ?_;cases ho:Br c.p c.env d with
  |none =>
   rw[ho]at J V;simp only[V6]at J V;refine sG J5 [] 14 [] λK z=>?_;refine ev ?_;refine ci (Fs hd) ?_;refine cc J ?_;apply z;refine sR J5 ?_;refine dA rfl (cA (u2 _ _ ?_));(refine lV J5 λK z=>?_;refine⟨by first| (unfold B6;omega)| (simp only[B6,sm]at*;omega),?_⟩;(try refine Bb @Fb.eq_1 ?_);apply z;try simp only[Aa,]);exact⟨(),V,(by simp[sle,B0,Ae,Fb,Ce,Dp]),sB⟩
  |some q =>
   rw[ho]at J V;simp only[V6]at J V;rw[<-V]at E;obtain rfl:R=M0 q:=by rw[<-hR,E]
   have Z:=lJ q;refine sG J5 [] 14 [] λK z=>?_;refine ev ?_;refine ci (Fs hd) ?_;refine cc J ?_;apply z;refine sR J5 ?_;refine eA rfl<|sC Z J5 ?_;exact aR
 intro _ V;rw[Dk,P7]at V;rw[<-V]at E;simp only at E;refine Dq @Fb.eq_1 B1 J5 λK2 u2=>?_;refine sE ?_;apply u1;refine sC ah J5 ?_;generalize Hn c.p c.env s.A1 e.targs=b at*;by_cases a0:0<=b
 .obtain⟨u,hu⟩:=ag a0 a1.symm;rw[A7 a0,hu,Dx]at E;obtain rfl:R=M0 u.pos:=by rw[<-hR,E]
  have Z:=lJ u.pos;refine Ag a0 J5 λW u1=>?_;refine tI ?_;refine sV J5 λK z=>?_;refine ci (Fs hu) ?_;refine cc Z ?_;apply z;exact aR
 rw[A5 a0]at E;refine Ag a0 J5 λW u1=>?_;refine kI u1 ?_;have ak:=hs.params.1;by_cases a7:e.kids.length=s.params.length+1;rotate_left
 .rw[A7 a7]at E;obtain rfl:=a4 E;have I:¬(e.kids.length:Int)=(s.params.length:Int)+1:=by omega
  refine sK λW u1=>?_;refine sQ J5 λK z=>?_;refine Bb I ?_;refine⟨by first| (unfold B6;omega)| (simp only[B6,sm]at*;omega),?_⟩;(try refine G1 @Fb.eq_1 I ?_);apply z;refine tI ?_;refine sC O J5 ?_;exact aR
 rw[A5 λhh=>hh a7]at E;have I:(e.kids.length:Int)=(s.params.length:Int)+1:=by omega
 refine sK λW u1=>?_;refine sQ J5 λK z=>?_;refine Bb I ?_;refine⟨by first| (unfold B6;omega)| (simp only[B6,sm]at*;omega),?_⟩;(try refine G1 @Fb.eq_1 I ?_);apply z;refine kI u1 ?_;have aj:=Ss s.A1 hs.A1.1;have aa:=dh c e.kids.tail (by rw[List.length_tail];omega) s.params (by rw[List.length_tail];omega) hs.params.2 (s.A1.map (·.name)) e.targs he.targs.2 hF;have af:=Qw (s.A1.map (·.name)) e.targs he.targs.2 s.result hs.result;rw[E]at hR;simp only at hR;have a':=Sl (s.result.subst (s.A1.map (·.name)) e.targs) (Ka c (s.params.map λf=>f.type.subst (s.A1.map (·.name)) e.targs) e.kids.tail (e.kids.tail.map (Da c)));have ac:R=Qy (s.result.subst (s.A1.map (·.name)) e.targs,Ka c (s.params.map λf=>f.type.subst (s.A1.map (·.name)) e.targs) e.kids.tail (e.kids.tail.map (Da c))):=hR.symm;rw[<-ac]at a';have hex:Ed e.kids.tail=((Ed e.kids).take e.kids.length).drop 1:=by rw[UC (by rw[AN];exact Bv _),P8,P8,<-List.map_drop,List.drop_one]
 rw[hex]at aa;generalize Ka c (s.params.map λf=>f.type.subst (s.A1.map (·.name)) e.targs) e.kids.tail (e.kids.tail.map (Da c))=r at*;obtain⟨rt,rr⟩:=R;refine sV J5 λK z=>?_;refine E0 @Fb.eq_1 aj ?_;apply z;refine sG J5 [] 11 [bC,bC,bC,bC,bC,bC,bC,bC,bC,bC,⟨[16],[16],[],[]⟩] λK z=>?_;refine ev ?_;refine⟨UU _,by omega,by omega,?_⟩;(try refine Bb @Fb.eq_1 ?_);refine cc aa ?_;apply z;refine sG J5 [] 10 [] λK z=>?_;refine ev ?_;refine cc af ?_;refine cc a' ?_;apply z;exact aR
def G1o(h:Gp c.vars e.name = -1):yF c e=M0 e.pos:=by unfold yF;rw[h];split;rw[A7 (by decide)];rfl
def F5d{r:Fw}(hs:Kt c x=true)(h:Gp (Bc c.p x) e.name = -1):Zp c e x r=M0 e.pos:=by unfold Zp;rw[A5 (by rw[hs];simp),h];split;rw[A7 (by decide)];rfl
def ef(h:Kt c x=true):B9 c.p x 1=true:=by unfold Kt at h;rw[Bh]at h;exact h.2
def G2y(h:¬ 0<=Fk c.env x):rD c x=x:=by unfold rD D3;rw[A7 (by omega)];rfl
def G9d{f:Aj}(h:0<=Fk c.env x)(E:c.env[(Fk c.env x).toNat]?=some f):rD c x=f.bound:=by unfold rD D3;rw[A5 (by omega),E];rfl
abbrev C4:=[0,1,2,3,4,5,6,7,8,9,10,11,12,13,14,15,16,19,24,35,50,61,82,117,133,138,147,151,164,174,199,205,212,240]
def uS(c:Cd)(O:c.Sm):∀e:Ex,e.Sm->Ab prog 42 [We c,D6 e] (trV (Da c e)):=by
 intro e;induction e using Ex.induct with|_ e ih=>?_;intro he;have I:=lJ e.pos;have hF:∀k,k∈e.kids->∀w:Ty,w.Sm->Ab prog 110 [We c,D6 k,Ba w] (Kk (P5 c w k (Da c k))):=λk hk w hw =>UY c O k (ih k hk (he.kids.2 k hk)) (ML O k (he.kids.2 k hk)) w hw;have af:=he.kids.1;have am:=O.vl;rw[wM];generalize E:vD c e (e.kids.map (Da c))=R;unfold vD at E;refine cB func42 ?_;refine sR C4 ?_;refine gA 2 rfl rfl ?_;refine gA 3 rfl rfl (wk [(2,.A8 (Fb c) 0),(3,.A8 (Ce e) 0),(4,.box 4 0),(5,.box 5 0)] [(4,Pw),(5,J3)] ?_);by_cases k1:e.kind=1
 .rw[A7 k1]at E;have d1:=Bn k1;refine Dq @Fb.eq_1 d1 C4 λJ u1=>?_;refine tI ?_;refine kR C4 λK2 u2=>?_;refine bA (A0.ii c.vars (X:=Unit) (λj _=>[(2,.A8 (Fb c) 0),(3,.A8 (Ce e) 0),(4,.box 4 0),(5,.box 5 0),(6,A6 j)]) (λ_ _=>[(4,Pw),(5,J3)]) (λj _=>∀y,y∈c.vars.take j->(λf:Param=>decide (f.name=e.name)) y=false) () (by simp) (by simp[sle,B0,Ae,Fb,Ce]) sB ?_ ?_);rotate_left
  .intro j _ d hd ad dp tk a8 hI;refine Dq @Fb.eq_1 a8 C4 λK3 u3=>?_;refine gI u3 ?_;refine sK λK3 u3=>bA ?_;by_cases hn:d.name=e.name
   .have a9:Gp c.vars e.name=j:=Rv hd (by simp[hn]) hI;have ae:¬(j:Int)<0:=by omega
    obtain rfl:R=(d.type,Gx):=by rw[<-E];unfold yF;rw[a9,Ic,hd];simp only;rw[A5 ae]
    have dn:=Bn hn
    (refine sG C4 [] 8 [] λK z=>?_;refine ev ?_;refine C0 dn (Dt hd) ?_;apply z)
    refine eA rfl<|sI (Dt hd) [0,1,2,3,4,5,6,7,8,9,10,11,12,13,14,15,16,19,24,35,50,61,82,117,133,138,147,151,164,174,199,205,212,240] ?_;exact aR
   ·(refine sG C4 [] 8 [] λK z=>?_;refine ev ?_;refine C0 hn (Dt hd) ?_;apply z)
    refine dA rfl (cA (u3 _ _ ?_))
    (refine lV C4 λK z=>?_;refine⟨by first| (unfold B6;omega)| (simp only[B6,sm]at*;omega),?_⟩;(try refine Bb @Fb.eq_1 ?_);apply z;try simp only[Aa,])
    refine⟨(),?_,(by simp[sle,B0,Ae,Fb,Ce]),sB⟩;intro y hy;rw[tk,Bj]at hy;rcases hy with hy|hy
    .exact hI y hy
    .simp only[Pj]at hy;subst hy;exact Cb hn
  intro _ hI;rw[Ca]at hI;obtain rfl:R=M0 e.pos:=by rw[<-E];exact G1o (T5 hI)
  refine Dq @Fb.eq_1 B1 C4 λK3 u3=>?_;refine sE ?_;refine u2 _ _<|sC I C4 ?_;exact aR
 rw[A5 k1]at E;refine Dq @Fb.eq_1 k1 C4 λJ u1=>?_;refine kI u1 ?_;by_cases k3:e.kind=3
 .rw[A7 k3]at E;unfold LI at E;have d3:=Bn k3;have U:=FI c.p O.p c.env O.el O.env e.type he.type;have hst:=O3 c O e.type;refine Ag d3 C4 λJ u1=>?_;refine tI ?_;cases ho:Br c.p c.env e.type with
  |some q =>rw[ho]at U E;simp only[V6]at U E;have a3:=lJ q;subst E;refine sC U C4 ?_;refine kR C4 λK2 u2=>?_;refine tI ?_;refine sC a3 C4 ?_;exact aR
  |none =>
   rw[ho]at U E;simp only[V6]at U E;refine sC U C4 ?_;refine kR C4 λK2 u2=>?_;refine kI u2 ?_;rcases Fc (Kt c e.type)with hs|hs;rotate_left;rw[A7 (.inl hs)]at E;subst E;rw[hs]at hst;refine sK λK2 u2=>?_;refine sG C4 [] 15 [] λK z=>?_;refine ev ?_;refine cc hst ?_;apply z;refine tI ?_;refine sC I C4 ?_;exact aR;have a2:=RP c.p O.p e.type he.type (ef hs);rw[hs]at hst;by_cases hl:(Bc c.p e.type).length=e.kids.length;rotate_left
   .rw[A7 (.inr hl)]at E;subst E;have aa:¬((Bc c.p e.type).length:Int)=(e.kids.length:Int):=by omega
    refine sK λK2 u2=>?_;refine sG C4 [] 15 [] λK z=>?_;refine ev ?_;refine cc hst ?_;refine E0 aa a2 ?_;apply z;refine tI ?_;refine sC I C4 ?_;exact aR
   rw[A5 (by rw[hs];simp[hl])]at E;have aa:((Bc c.p e.type).length:Int)=(e.kids.length:Int):=by omega
   have ac:=dh c e.kids af (Bc c.p e.type) hl (wH O.p he.type) [] [] (by simp) hF;have ah:((Bc c.p e.type).map λf=>f.type.subst [] [])=(Bc c.p e.type).map (·.type):=Hb λf _=>Rn f.type;rw[ah]at ac;subst E;generalize Ka c ((Bc c.p e.type).map (·.type)) e.kids (e.kids.map (Da c))=r at*;refine sK λK2 u2=>?_;refine sG C4 [] 15 [] λK z=>?_;refine ev ?_;refine cc hst ?_;refine E0 aa a2 ?_;apply z;refine kI u2 ?_;refine sG C4 [] 11 [] λK z=>?_;refine ev ?_;refine cc a2 ?_;refine cc ac ?_;apply z;exact aR
 rw[A5 k3]at E;refine Ag k3 C4 λJ u1=>?_;refine kI u1 ?_;by_cases k2:e.kind≠2/\e.kind≠4/\e.kind≠5;rw[A7 k2]at E;subst E;obtain⟨n2,n4,n5⟩:=k2;refine kR3 n2 n4 n5 C4 λJ u1=>?_;refine tI ?_;refine sC I C4 ?_;exact aR;rw[A5 k2]at E;have kk:e.kind=2\/e.kind=4\/e.kind=5:=by omega
 have aj:e.kids=[]\/∃v vs,e.kids=v::vs:=by
  cases e.kids with
  |nil=>exact .inl rfl
  |cons v vs=>exact .inr ⟨v,vs,rfl⟩
 rcases aj with W|⟨v,vs,W⟩
 .rw[W]at E;simp only[G5]at E;subst E;have a1:(e.kids.length:Int)=0:=by rw[W];rfl
  rcases kk with k|k|k;have e2:=Bn k;refine sK λJ u1=>?_;refine sQ C4 λK z=>?_;simp -implicitDefEqProofs only[EV,D8,Nat.reduceEqDiff,reduceCtorEq,M9,e2,a1];apply z;refine tI ?_;refine sC I C4 ?_;exact aR
  .have n2:¬e.kind=2:=by omega
   have e4:=Bn k;refine sK λJ u1=>?_;refine sQ C4 λK z=>?_;simp -implicitDefEqProofs only[EV,D8,Nat.reduceEqDiff,reduceCtorEq,M9,n2,e4,a1];apply z;refine tI ?_;refine sC I C4 ?_;exact aR
  .have n2:¬e.kind=2:=by omega
   have n4:¬e.kind=4:=by omega
   have e5:=Bn k;refine sK λJ u1=>?_;refine sQ C4 λK z=>?_;simp -implicitDefEqProofs only[EV,D8,Nat.reduceEqDiff,reduceCtorEq,M9,n2,n4,e5,a1];apply z;refine tI ?_;refine sC I C4 ?_;exact aR
 .have a1:¬(e.kids.length:Int)=0:=by rw[W];simp only[Bg];omega
  have h0:e.kids[0]?=some v:=by rw[W];rfl
  have a6:v∈e.kids:=by rw[W];simp
  have hT:=ih v a6 (he.kids.2 v a6);have a4:=ML O v (he.kids.2 v a6);have U:=FI c.p O.p c.env O.el O.env e.type he.type;have a0:=H2q c O e he (Da c v).1 a4 (by rw[W];simp) λk hk w hw=>hF k (List.mem_of_mem_tail hk) w hw;have ai:e.kids.tail=vs:=by rw[W];rfl
  rw[ai]at a0;rw[W]at E;simp only[Cj]at E;generalize Da c v=z at*;obtain⟨x,⟨q,b,lg⟩⟩:=z;simp only at E a4 a0;have a5:=λf:Param=>Sl f.type ⟨q,b,lg⟩;rcases kk with k|k|k
  .have e2:=Bn k;refine sK λJ u1=>?_
   (refine sQ C4 λK z=>?_;simp -implicitDefEqProofs only[EV,D8,Nat.reduceEqDiff,reduceCtorEq,M9,e2,a1];apply z)
   refine kI u1 ?_
   (refine sG C4 [] 12 gc λK z=>?_;refine ev ?_;refine cj (Ey h0) ?_;refine cc hT ?_;apply z)
   (refine gA 9 rfl rfl ?_;refine gA 10 rfl rfl (wk [(2,.A8 (Fb c) 0),(3,.A8 (Ce e) 0),(4,.box 4 0),(5,.box 5 0),(9,.A8 (Bf x) 0),(10,.A8 [.int .i64 q,.bool b,.bool lg] 0)] [(4,Pw),(5,J3)] ?_))
   cases b with
   |true =>rw[A7 rfl]at E;subst E;refine kR C4 λJ u1=>?_;refine tI ?_;refine sG C4 [] 3 gr λK z=>?_;refine ev ?_;apply z;exact aR
   |false =>rw[A5 (by simp),A7 k]at E;rw[E]at a0;obtain⟨rt,rr⟩:=R;refine kR C4 λJ u1=>?_;refine kI u1 ?_;refine Dq @Fb.eq_1 e2 C4 λJ u1=>?_;refine tI ?_;refine sC a0 C4 ?_;exact aR
  .have n2:¬e.kind=2:=by omega
   have e4:=Bn k;refine sK λJ u1=>?_
   (refine sQ C4 λK z=>?_;simp -implicitDefEqProofs only[EV,D8,Nat.reduceEqDiff,reduceCtorEq,M9,n2,e4,a1];apply z)
   refine kI u1 ?_
   (refine sG C4 [] 12 gc λK z=>?_;refine ev ?_;refine cj (Ey h0) ?_;refine cc hT ?_;apply z)
   (refine gA 9 rfl rfl ?_;refine gA 10 rfl rfl (wk [(2,.A8 (Fb c) 0),(3,.A8 (Ce e) 0),(4,.box 4 0),(5,.box 5 0),(9,.A8 (Bf x) 0),(10,.A8 [.int .i64 q,.bool b,.bool lg] 0)] [(4,Pw),(5,J3)] ?_))
   cases b with
   |true =>rw[A7 rfl]at E;subst E;refine kR C4 λJ u1=>?_;refine tI ?_;refine sG C4 [] 3 gr λK z=>?_;refine ev ?_;apply z;exact aR
   |false =>
    rw[A5 (by simp),A5 n2,A7 k]at E;refine kR C4 λJ u1=>?_;refine kI u1 ?_;refine Dq @Fb.eq_1 n2 C4 λJ u1=>?_;refine kI u1 ?_;refine Ag e4 C4 λJ u1=>?_;refine tI ?_;have hst:=O3 c O x;rcases Fc (Kt c x)with hs|hs;rotate_left
    .obtain rfl:R=M0 e.pos:=by rw[<-E];unfold Zp;rw[A7 hs]
     rw[hs]at hst;refine kC hst C4 λK2 u2=>?_;refine tI ?_;refine sC I C4 ?_;exact aR
    have a2:=RP c.p O.p x a4 (ef hs);have ak:=NJ O.p x;have ab:=@F5d c e x ⟨q,false,lg⟩ hs;have Tt:∀(j:Nat) (f:Param),Gp (Bc c.p x) e.name=j->(Bc c.p x)[j]?=some f->Zp c e x ⟨q,false,lg⟩=Qy (f.type,⟨q,false,lg⟩):=λj f h1 h2=>by unfold Zp;rw[A5 (by rw[hs];simp),h1,Ic,h2];simp only;rw[A5 (by omega)]
    rw[hs]at hst;generalize Bc c.p x=L at*;refine kC hst C4 λK2 u2=>?_;refine kI u2 ?_;refine sV C4 λK z=>?_;refine E0 @Fb.eq_1 a2 ?_;apply z;refine kR C4 λK2 u2=>?_;refine bA (A0.ii L (X:=Unit) (λj _=>[(2,.A8 (Fb c) 0),(3,.A8 (Ce e) 0),(4,.box 4 0),(5,.box 5 0),(10,.A8 [.int .i64 q,.bool false,.bool lg] 0),(11,.d (.slice (Aw L))),(12,A6 j)]) (λ_ _=>[(4,Pw),(5,J3)]) (λj _=>∀y,y∈L.take j->(λf:Param=>decide (f.name=e.name)) y=false) () (by simp) (by simp[sle,B0,Ae,Fb,Ce]) sB ?_ ?_);rotate_left
    .intro j _ d hd ad dp tk a8 hI;refine Dq @Fb.eq_1 a8 C4 λK3 u3=>?_;refine gI u3 ?_;refine sK λK3 u3=>bA ?_;by_cases hn:d.name=e.name
     .have a9:Gp L e.name=j:=Rv hd (by simp[hn]) hI;have a5:=a5 d;rw[<-Tt j d a9 hd,E]at a5;obtain⟨rt,rr⟩:=R;have dn:=Bn hn
      (refine sG C4 [] 7 [] λK z=>?_;refine ev ?_;refine C0 dn (Dt hd) ?_;apply z)
      refine eA rfl ?_
      (refine sG C4 [] 9 [] λK z=>?_;refine ev ?_;refine ci (Dt hd) ?_;refine cc a5 ?_;apply z)
      exact aR
     ·(refine sG C4 [] 7 [] λK z=>?_;refine ev ?_;refine C0 hn (Dt hd) ?_;apply z)
      refine dA rfl (cA (u3 _ _ ?_))
      (refine lV C4 λK z=>?_;refine⟨by first| (unfold B6;omega)| (simp only[B6,sm]at*;omega),?_⟩;(try refine Bb @Fb.eq_1 ?_);apply z;try simp only[Aa,])
      refine⟨(),?_,(by simp[sle,B0,Ae,Fb,Ce]),sB⟩;intro y hy;rw[tk,Bj]at hy;rcases hy with hy|hy
      .exact hI y hy
      .simp only[Pj]at hy;subst hy;exact Cb hn
    intro _ hI;rw[Ca]at hI;obtain rfl:R=M0 e.pos:=by rw[<-E];exact ab (T5 hI)
    refine Dq @Fb.eq_1 B1 C4 λK3 u3=>?_;refine sE ?_;refine u2 _ _<|sC I C4 ?_;exact aR
  .have n2:¬e.kind=2:=by omega
   have n4:¬e.kind=4:=by omega
   have e5:=Bn k;refine sK λJ u1=>?_
   (refine sQ C4 λK z=>?_;simp -implicitDefEqProofs only[EV,D8,Nat.reduceEqDiff,reduceCtorEq,M9,n2,n4,e5,a1];apply z)
   refine kI u1 ?_
   (refine sG C4 [] 12 gc λK z=>?_;refine ev ?_;refine cj (Ey h0) ?_;refine cc hT ?_;apply z)
   (refine gA 9 rfl rfl ?_;refine gA 10 rfl rfl (wk [(2,.A8 (Fb c) 0),(3,.A8 (Ce e) 0),(4,.box 4 0),(5,.box 5 0),(9,.A8 (Bf x) 0),(10,.A8 [.int .i64 q,.bool b,.bool lg] 0)] [(4,Pw),(5,J3)] ?_))
   cases b with
   |true =>rw[A7 rfl]at E;subst E;refine kR C4 λJ u1=>?_;refine tI ?_;refine sG C4 [] 3 gr λK z=>?_;refine ev ?_;apply z;exact aR
   |false =>
    rw[A5 (by simp),A5 n2,A5 n4]at E;unfold NI at E;refine kR C4 λJ u1=>?_;refine kI u1 ?_;refine Dq @Fb.eq_1 n2 C4 λJ u1=>?_;refine kI u1 ?_;refine Ag n4 C4 λJ u1=>?_;refine kI u1 ?_;cases ho:Br c.p c.env e.type with
    |some n =>rw[ho]at U E;simp only[V6]at U E;have a3:=lJ n;subst E;refine sC U C4 ?_;refine kR C4 λJ u1=>?_;refine tI ?_;refine sC a3 C4 ?_;exact aR
    |none =>
     rw[ho]at U E;simp only[V6]at U E;refine sC U C4 ?_;refine kR C4 λJ u1=>?_;refine kI u1 ?_;have ag:=OI c.env x O.el;have V:=oZ c O x;have Z:=oZ c O e.type;refine sK λJ u1=>?_;rcases Fc c.strict with hst|hst;rotate_left;rw[A5 (λhh=>by rw[hst]at hh;cases hh.1)]at E;subst E;refine Ak hst C4 ?_;refine dA rfl (cA (u1 _ _ ?_));refine sG C4 [] 4 gm λK z=>?_;refine ev ?_;apply z;exact aR
     .refine sR C4 ?_;refine A0.cond rfl (λ_=>?_) (λhf=>absurd (hst.symm.trans hf) (by decide));refine sR C4 ?_;refine sC ag C4<|sK λK2 u2=>?_;by_cases h0:0<=Fk c.env x
      .obtain⟨f,hf,_⟩:=MH (env:=c.env) (t:=x) (by omega);have a':=G9d h0 hf;have hi:=nJ c.p O.p c.env O.el O.env e.type f.bound he.type (O.env f (Bs hf)).bound;have a7:Cr c.p c.env e.type (rD c x)=Cr c.p c.env e.type f.bound:=by rw[a']
       rw[<-a7]at hi;refine Ak h0 C4 ?_;refine eA rfl ?_;(refine lV C4 λK z=>?_;refine⟨h0,_,Fm hf,rfl,?_⟩;(try refine ev ?_);apply z;try simp only[Aa,]);apply u2;rcases Fc (WE c x)with ha|ha;rotate_left;rw[A7 ⟨hst,by unfold V7;rw[ha];rfl⟩]at E;subst E;rw[ha]at V;refine sC V C4 ?_;refine tI ?_;refine sC I C4 ?_;exact aR;rw[ha]at V;rcases Fc (WE c e.type)with hb|hb;rw[A5 (λhh=>by have:=hh.2;unfold V7 at this;rw[ha,hb]at this;cases this)]at E;subst E;rw[hb]at Z;refine sV C4 λK z=>?_;refine cc V ?_;refine cc Z ?_;apply z;refine dA rfl (cA (u1 _ _ ?_));refine sG C4 [] 4 gm λK z=>?_;refine ev ?_;apply z;exact aR;rw[hb]at Z;rcases Fc (Cr c.p c.env e.type (rD c x))with hm|hm;rw[A5 (λhh=>by have:=hh.2;unfold V7 at this;rw[ha,hb,hm]at this;cases this)]at E;subst E;rw[hm]at hi;refine sV C4 λK z=>?_;refine cc V ?_;refine cc Z ?_;refine cc hi ?_;apply z;refine dA rfl (cA (u1 _ _ ?_));refine sG C4 [] 4 gm λK z=>?_;refine ev ?_;apply z;exact aR;rw[A7 ⟨hst,by unfold V7;rw[ha,hb,hm];rfl⟩]at E;subst E;rw[hm]at hi;refine sV C4 λK z=>?_;refine cc V ?_;refine cc Z ?_;refine cc hi ?_;apply z;refine tI ?_;refine sC I C4 ?_;exact aR
      .have a':=G2y h0;have hi:=nJ c.p O.p c.env O.el O.env e.type x he.type a4;have a7:Cr c.p c.env e.type (rD c x)=Cr c.p c.env e.type x:=by rw[a']
       rw[<-a7]at hi;refine Ak h0 C4 ?_;refine dA rfl (cA (u2 _ _ ?_));rcases Fc (WE c x)with ha|ha;rotate_left;rw[A7 ⟨hst,by unfold V7;rw[ha];rfl⟩]at E;subst E;rw[ha]at V;refine sC V C4 ?_;refine tI ?_;refine sC I C4 ?_;exact aR;rw[ha]at V;rcases Fc (WE c e.type)with hb|hb;rw[A5 (λhh=>by have:=hh.2;unfold V7 at this;rw[ha,hb]at this;cases this)]at E;subst E;rw[hb]at Z;refine sV C4 λK z=>?_;refine cc V ?_;refine cc Z ?_;apply z;refine dA rfl (cA (u1 _ _ ?_));refine sG C4 [] 4 gm λK z=>?_;refine ev ?_;apply z;exact aR;rw[hb]at Z;rcases Fc (Cr c.p c.env e.type (rD c x))with hm|hm;rw[A5 (λhh=>by have:=hh.2;unfold V7 at this;rw[ha,hb,hm]at this;cases this)]at E;subst E;rw[hm]at hi;refine sV C4 λK z=>?_;refine cc V ?_;refine cc Z ?_;refine cc hi ?_;apply z;refine dA rfl (cA (u1 _ _ ?_));refine sG C4 [] 4 gm λK z=>?_;refine ev ?_;apply z;exact aR;rw[A7 ⟨hst,by unfold V7;rw[ha,hb,hm];rfl⟩]at E;subst E;rw[hm]at hi;refine sV C4 λK z=>?_;refine cc V ?_;refine cc Z ?_;refine cc hi ?_;apply z;refine tI ?_;refine sC I C4 ?_;exact aR
def UN{p:Prog}(h:p.Sm)(st:Bool){d:Decl}(hd:d.Sm)(I:d.AG)(E:d.sig.params.length+1<=sm):(Hv p st d).Sm:=by refine⟨h,?_,?_,?_,?_⟩;show(Fq p d++d.sig.A1).length<=sm;have:=VV p d;have:=I.sig;rw[B5];omega;intro f hf;rcases Bj.1 hf with hf|hf;exact im h hd f hf;exact hd.sig.A1.2 f hf;show(⟨d.recv,iD d,0⟩::d.sig.params:List Param).length<=sm;rw[Bg];exact E;intro f hf;rcases Ay.1 hf with rfl|hf;refine⟨hd.recv,.mk _ _ _ hd.name (by simp only[Fj,B7];exact hd.vars.1) (y0 hd)⟩;exact hd.sig.params.2 f hf
abbrev z49:Ax:=.cells [.d .nil,.d (.int .i64 0),.d (.str []),.d (.str []),.d .nil,.d (.int .i64 0),.d .nil,.d .nil,.d (.int .i64 0),.d (.bool false),.d .nil,.d .nil]
abbrev Yn:=[0,1,2,3,5,6,7,8,9,17,36,46,900]
abbrev zR:Ji:=⟨[],[],[36],[36]⟩
def XW(p:Prog)(h:p.Sm)(st:Bool)(d:Decl)(hd:d.Sm)(h2:d.AG)(a0:d.sig.params.length+1<=sm):Ab prog 111 [Cs p,Ar st,Hw d] (We (Hv p st d)):=by
 have E:=rj p h d hd;have J:=VV p d;have W:=hd.vars.1;have a1:=h2.sig;have V:Ai (Hv p st d).env=Ai (Fq p d)++Ai d.sig.A1:=by simp[Hv,Ai]
 unfold We;rw[V];show Ab prog 111 [Cs p,Ar st,Hw d] (.agg [.d (.slice (Bx p.decls)),.d (.int .i64 p.main.kind),.d (.str p.main.name),.d (.str p.main.type.name),.d (.slice (Au p.main.type.args)),.d (.int .i64 p.main.type.pos),.d (.slice (Au p.main.targs)),.d (.slice (Ed p.main.kids)),.d (.int .i64 p.main.pos),.d (.bool st),.d (.slice (Ai (Fq p d)++Ai d.sig.A1)),.d (.slice ([[.str d.recv,.str d.name,.slice (Au (Fj d.vars)),.int .i64 0,.int .i64 0]]++Aw d.sig.params))]);have O:(Ai (Fq p d)).length<=d.vars.length:=by simpa [Ai]using J
 generalize Ai (Fq p d)=ER at*;refine cB func111 ?_;refine sR Yn ?_;refine gA 3 rfl rfl ?_;refine gA 5 rfl rfl (wk [(1,Ar st),(3,.A8 (Ah p) 0),(5,.A8 (Am d) 0),(6,.box 6 0)] [(6,z49)] ?_);refine sR Yn ?_;refine rA 900 3 7 1 rfl rfl (by decide)<|kR Yn λZ u1=>?_;refine bA (A0.ii d.vars (X:=Unit) (λj _=>[(1,Ar st),(3,.A8 (Ah p) 0),(5,.A8 (Am d) 0),(6,.box 6 0),(7,.box 7 0),(8,A6 j)]) (λj _=>[(6,z49),(7,.cells [.d (.str d.name),.acc 900,.d (.int .i64 0)]),(900,.rows 3 (Au (Fj (d.vars.take j))))]) (λ_ _=>True) () trivial (by simp[sle,B0,Ae,Am,Ah]) (by simp[ble,A9,Cq,Fj]) ?_ ?_)
 rotate_left;intro j _ s hs U dp tk L _;rw[tk];refine Ag L Yn λI u2=>?_;refine gI u2 ?_;refine sK λI u2=>bA ?_;(refine lG Yn [] 9 [] λK z=>?_;refine ev ?_;refine ci (Jj hs) ?_;refine⟨by simp,by simp only[Fj,B7,Dh];unfold lim sm at*;omega,?_⟩;(try refine ev ?_);apply z;try simp only[Aa,Af]);apply u2;refine lT Yn ?_;exact⟨(),trivial,(by simp[sle,B0,Ae,Am,Ah]),by simp[ble,A9,Cq,Fj,Bf,Ty.name,Ty.args,Ty.pos]⟩;intro _ _;rw[Ca];refine Ag B1 Yn λI u2=>?_;refine sE ?_;apply u1;refine A0.Km 900 rfl (wk [(1,Ar st),(3,.A8 (Ah p) 0),(5,.A8 (Am d) 0),(6,.box 6 0),(7,.box 7 0)] [(6,z49),(7,.cells [.d (.str d.name),.d (.slice (Au (Fj d.vars))),.d (.int .i64 0)])] ?_);refine sR Yn ?_;refine sG Yn [36] 6 [⟨[],[],[],[]⟩,⟨[],[],[],[]⟩,⟨[36],[36],[],[]⟩,zR,zR,zR] λK z=>?_;refine ev ?_;refine⟨_,_,_,_,_,rfl,E,?_⟩;(try refine ev ?_);refine⟨FO _,by unfold lim sm at*;omega,?_⟩;(try refine ev ?_);apply z;refine jA Yn [46] (by decide +kernel) λK z=>?_;refine ev ?_;refine⟨uV _,by unfold lim sm at*;omega,?_⟩;(try refine ev ?_);apply z;refine A0.Km 36 rfl ?_;refine A0.Km 46 rfl (wk [(6,.box 6 0),(9,.box 9 0)] [(6,z49),(9,.cells [.d (.slice (Bx p.decls)),.d (.int .i64 p.main.kind),.d (.str p.main.name),.d (.str p.main.type.name),.d (.slice (Au p.main.type.args)),.d (.int .i64 p.main.type.pos),.d (.slice (Au p.main.targs)),.d (.slice (Ed p.main.kids)),.d (.int .i64 p.main.pos),.d (.bool st),.d (.slice (ER++Ai d.sig.A1)),.d (.slice ([[.str d.recv,.str d.name,.slice (Au (Fj d.vars)),.int .i64 0,.int .i64 0]]++Aw d.sig.params))])] ?_);refine sR Yn ?_;exact aR
abbrev eK:=[0,1,2,3,6,7,25]
def G3v(p:Prog)(h:p.Sm)(st:Bool)(i:Nat)(d:Decl)(hd:p.decls[i]?=some d)(W:d.AG)(J:d.sig.params.length+1<=sm):Ab prog 41 [Cs p,Ar st,A6 i] (Kk (Wy p st d)):=by
 have a0:=(Az.1 hd).1;have V:¬(i:Int)<0:=by omega
 have Z:¬(i:Int) >= (p.decls.length:Int):=by omega
 have E:=h.decls.2 d (Bs hd);have I:=UN h st E W J;have O:=XW p h st d E W J;have L:=UY (Hv p st d) I d.body (uS _ I d.body E.body) (ML I d.body E.body) d.sig.result E.sig.result;unfold Wy;generalize P5 (Hv p st d) d.sig.result d.body (Da (Hv p st d) d.body)=r at*;generalize Hv p st d=c at*;by_cases k3:d.kind=3
 .rw[A7 k3];have d3:=Bn k3;refine cB func41 ?_;refine sR eK<|sK λU u1=>?_
  refine sQ eK λK z=>?_;refine G1 V Z ?_;refine⟨by omega,_,E6 hd,rfl,?_⟩;(try simp -implicitDefEqProofs only[EV,Nat.reduceEqDiff,reduceCtorEq,M9,d3]);apply z;refine kI u1 ?_;refine sI (E6 hd) [0,1,2,3,6,7,25] ?_;refine sG eK [] 9 [] λK z=>?_;refine ev ?_;refine cc O ?_;refine cc L ?_;apply z;exact aR
 .rw[A5 k3];refine cB func41 ?_;refine sR eK<|sK λU u1=>?_
  refine sQ eK λK z=>?_;refine G1 V Z ?_;refine C0 k3 (E6 hd) ?_;apply z;refine tI ?_;refine sR eK ?_;exact aR
structure Prog.Fit(p:Prog):Prop where
 sm:p.Sm
 len:p.decls.length<=100000
 two:∀d,d∈p.decls->d.AG
 par:∀d,d∈p.decls->d.sig.params.length+1<=Go.iA.sm
def A4.lS(s:A4)(n:Int)(I:0<=n)(h:s.count n<=2000):s.params.length<=2000:=by unfold A4.count at h;obtain⟨L,O⟩:=bG s.A1 (n+((s.name.length / 50:Nat):Int));obtain⟨U,E⟩:=cF s.params (Cf s.A1 (n+((s.name.length / 50:Nat):Int)));have J:=Ty.Fu s.result (Dj s.params (Cf s.A1 (n+((s.name.length / 50:Nat):Int))));have:=(E (by omega) (by omega)).1;omega
def Decl.lS(d:Decl)(n:Int)(L:0<=n)(h:d.count n<=2000):d.sig.params.length<=2000:=by unfold Decl.count at h;generalize hm:n+1+((d.name.length / 50:Nat):Int)+((d.recv.length / 50:Nat):Int)=m at h;obtain⟨V,a2⟩:=bG d.A1 m;obtain⟨b1,W⟩:=cF d.fields (Cf d.A1 m);obtain⟨U,Z⟩:=oh d.sigs (Dj d.fields (Cf d.A1 m));obtain⟨E,O⟩:=QD d.vars (Ez d.sigs (Dj d.fields (Cf d.A1 m)));generalize I:Jb d.vars (Ez d.sigs (Dj d.fields (Cf d.A1 m)))=z at*;unfold Decl.S8 at h;have J:=Ex.Fu d.body (d.sig.count z);split at h;exact A4.lS d.sig z (by omega) (by omega);omega
def nt:Pb J8 (λd=>d.sig.params.length<=2000):=P1 J8 Decl.count (λd=>d.sig.params.length<=2000) (λ_=>rfl) (λ_ _ _=>rfl) (λx k=>(Decl.H9 x k).1) (λx k E h=>Decl.lS x k E h)
def oA(p:Prog)(h:p.count<=600):p.Fit:=by have E:=Prog.Py p h;have hs:=Prog.H9 p h;refine⟨hs.1,by have:=hs.2;omega,λd hd=>(E.decls d hd).two,λd hd=>?_⟩;unfold Prog.count at h;have J:=Ex.Fu p.main 0;obtain⟨L,I⟩:=nt p.decls (p.main.count 0);have:=(I (by omega) (by omega)).2 d hd;unfold Go.iA.sm;omega
abbrev R6:=[0,1,2,4,5,6,8,13,21,27]
def Om(p:Prog)(h:p.Fit)(st:Bool):Ab prog 17 [Cs p,Ar st] (Kk (Yd p st)):=by
 have a1:=h.sm.decls.1;have V:(⟨p,st,[],[]⟩:Cd).Sm:=⟨h.sm,by simp,by simp,by simp,by simp⟩;have a0:=uS ⟨p,st,[],[]⟩ V p.main h.sm.main;generalize hR:Yd p st=R;unfold Yd at hR;refine cB func17 ?_;refine sR R6 ?_;refine gA 2 rfl rfl (wk [(1,Ar st),(2,.A8 (Ah p) 0),(4,.box 4 0)] [(4,J3)] ?_);refine kR R6 λK1 u1=>?_;refine bA (A0.ii p.decls (X:=Unit) (λj _=>[(1,Ar st),(2,.A8 (Ah p) 0),(4,.box 4 0),(5,A6 j)]) (λ_ _=>[(4,J3)]) (λj _=>Xb p st (p.decls.drop j) j=R) () hR (by simp[sle,B0,Ae,Ah]) sB ?_ ?_);rotate_left
 .intro j _ d hd J dp tk Z E;have I:=F9i p h.sm h.len j d hd (h.two d J);have W:=G3v p h.sm st j d hd (h.two d J) (h.par d J);rw[dp,Xb]at E;refine Ag Z R6 λO u2=>?_;refine gI u2 ?_;refine sK λO u2=>bA ?_;cases ho:Pm p j d with
  |some q =>rw[ho]at I E;simp only[Kk,Ip,Lp]at I E;refine sC I R6 ?_;refine kR R6 λU L=>?_;refine dA rfl (cA (L _ _ ?_));refine sR R6 ?_;refine eA rfl<|sR R6 ?_;rw[<-E];exact aR
  |none =>
   rw[ho]at I E;simp only[Kk,Ip,Gx]at I E;generalize Wy p st d=r at*;obtain⟨q,b,l⟩:=r;refine sC I R6 ?_;refine kR R6 λU L=>?_;refine eA rfl ?_
   (refine lV R6 λK z=>?_;refine cc W ?_;apply z;try simp only[Aa,])
   refine L _ _ ?_;refine sR R6 ?_;cases b with
   |true =>rw[A7 rfl]at E;refine eA rfl<|sR R6 ?_;rw[<-E];exact aR
   |false =>rw[A5 (by simp)]at E;refine dA rfl (cA (u2 _ _ ?_));refine lT R6 ?_;exact⟨(),E,(by simp[sle,B0,Ae,Ah]),sB⟩
 intro _ E;rw[Dk,Xb]at E;refine Ag B1 R6 λO u2=>?_;refine sE ?_;apply u1;generalize Da ⟨p,st,[],[]⟩ p.main=z at*;obtain⟨x,r⟩:=z;simp only at E;subst E;refine sC a0 R6 ?_;refine sR R6 ?_;exact aR
end Go.iA
