/- castingsref15.Env -/
import Derived.Test.YtcmlfpcaeflleaaGreatDoorGV05
set_option linter.all false
set_option maxHeartbeats 4000000
set_option maxRecDepth 100000
namespace Go.Abs
open Go Go.Proofs Tryz
abbrev Qf:List Nat:=[0,1,2,3,4,5,6,7,8,9,18,39]
def E3k(p:Prog)(h:p.Sm)(d:Decl)(hd:d.Sm):Bj prog 184 [D7 p,Ma d] [] (.acc 8) [(8,.rows 5 (Ar (Ga p d)))]:=by
 have O:=B2m h d.name;have hf:=B8y p d.name;have a1:=Vq (Ey p d.name) O.1;have a2:=hd.vars.1;have a0:∀u,u∈E5 d.vars->u.Sm:=by intro u hu;obtain⟨v,hv,rfl⟩:=B1.1 hu;exact .mk _ _ _ (hd.vars.2 v hv) (by simp) (by simp)
 unfold Ga;generalize hL:Ey p d.name=L at*;refine bB func184 ?_;refine sR Qf ?_
 (refine A0.zz 2 rfl rfl ?_;refine A0.zz 3 rfl rfl (wk [(2,.Ah (An p) 0),(3,.Ah (Bb d) 0),(4,.d .nil)] [] ?_))
 refine sC hf Qf ?_;refine sR Qf ?_;refine A0.pp 6 3 6 rfl<|kR Qf λZ u1=>?_;refine A0.bb (A0.ii d.vars (X:=Unit) (λj _=>[(3,.Ah (Bb d) 0),(5,.d (.slice (Ar L))),(6,.acc 6),(7,A8 j)]) (λj _=>[(6,.rows 3 (Au (E5 (d.vars.take j))))])
  (λj _=>True) () trivial (by simp[sle,Ax,Ag,Bb]) (by simp[ble,A7,Cz,E5]) ?_ ?_)
 rotate_left
 .intro j _ s hs J dp tk W _;rw[tk];refine Ai W Qf λE u2=>?_;refine gI u2 ?_;clear u2 E;refine sK λE u2=>A0.bb ?_
  (refine lV Qf λK z=>?_;refine ci (Ku hs) ?_;refine⟨by simp,by simp only[E5,Bn,Dx];unfold lim sm at*;omega,?_⟩;(try refine ev ?_);apply z;clear z K;try simp only[A4,Ab])
  refine u2 _ _ ?_;clear u2 E;refine lT Qf ?_;exact⟨(),trivial,(by simp[sle,Ax,Ag,Bb]),by simp[ble,A7,Cz,E5,Be,Ty.name,Ty.args,Ty.pos]⟩
 intro _ _;rw[Dm];refine Ai B3 Qf λE u2=>?_;refine A0.ss rfl ?_;simp only[A4,Ab,Ae];refine u1 _ _ ?_;clear u2 E u1 Z
 (refine A0.Jq 6 rfl (wk [(3,.Ah (Bb d) 0),(5,.d (.slice (Ar L))),(6,.d (.slice (Au (E5 d.vars))))] [] ?_))
 refine sR Qf ?_;refine A0.pp 8 5 8 rfl<|kR Qf λZ u1=>?_;have V:∀z,z∈L.zip d.vars->Ac prog 60 [B6 z.1.bound,Cy (L.map (·.name)),Cd (E5 d.vars)] (B6 (z.1.bound.subst (Af L) (E5 d.vars))):=λz hz =>Vy (L.map (·.name)) (E5 d.vars) a0 z.1.bound (O.2 z.1 (As3 hz).1).bound
 refine A0.bb (A0.ii (L.zip d.vars) (X:=Unit) (λj _=>[(3,.Ah (Bb d) 0),(5,.d (.slice (Ar L))),(6,.d (.slice (Au (E5 d.vars)))),(8,.acc 8),(9,A8 j)])
  (λj _=>[(8,.rows 5 (Ar (((L.zip d.vars).take j).map λz=>⟨z.2,z.1.bound.subst (Af L) (E5 d.vars),z.1.pos⟩)))])
  (λj _=>True) () trivial (by simp[sle,Ax,Ag,Bb]) (by simp[ble,A7,Ar]) ?_ ?_)
 rotate_left
 .intro j _ z hz J dp tk W _;obtain⟨f,v⟩:=z;rw[Am5]at hz;have a4:=(B5.1 hz.1).1;have a3:=(B5.1 hz.2).1;have I:(j:Int)<(L.length:Int):=by omega
  have M:(j:Int)<((E5 d.vars).length:Int):=by simp only[E5,Bn];omega
  have hs:=V (f,v) J;simp only at hs;have a5:(L.zip d.vars).length<=sm:=by rw[Ao3];omega
  rw[tk];refine Sv I M Qf λE u2=>?_;refine gI u2 ?_;clear u2 E;refine sK λE u2=>A0.bb ?_
  (refine lG Qf [] 22 [] λK z=>?_;refine ev ?_;refine ci (Ku hz.2) ?_;refine ci (F5 hz.1) ?_;refine cc a1 ?_;refine cc hs ?_;refine ci (F5 hz.1) ?_;refine⟨by simp,by simp only[Bn,Dx];unfold lim sm at*;omega,?_⟩;(try refine ev ?_);apply z;clear z K;try simp only[A4,Ab])
  refine u2 _ _ ?_;clear u2 E;refine lT Qf ?_;exact⟨(),trivial,(by simp[sle,Ax,Ag,Bb]),by simp[ble,A7,Ar,Jy]⟩
 intro _ _;rw[Dm];have U:∀sl bx,sle sl [(8,.acc 8)]->ble bx [(8,.rows 5 (Ar ((L.zip d.vars).map λz=>⟨z.2,z.1.bound.subst (Af L) (E5 d.vars),z.1.pos⟩)))]->Z sl bx:=by intro sl bx h1 h2;refine u1 _ _ (A0.ww h1 h2 ?_);clear u1 Z;refine sR Qf ?_;exact A0.ret ⟨_,by rw[results184];rfl,.inl rfl,by simp[ble,A7]⟩
 refine sK λE u2=>?_;by_cases I:L.length<=d.vars.length
 .have e:(L.zip d.vars).length=L.length:=by rw[Ao3];omega
  rw[e];refine Aq B3 Qf ?_;refine A0.ss rfl ?_;simp only[A4,Ab,Ae];exact U _ _ sS sB
 .have e:(L.zip d.vars).length=d.vars.length:=by rw[Ao3];omega
  rw[e];have I:(d.vars.length:Int)<(L.length:Int):=by omega
  have M:¬(d.vars.length:Int)<((E5 d.vars).length:Int):=by simp[E5]
  refine Fi I M Qf ?_;refine A0.ss rfl ?_;simp only[A4,Ab,Ae];exact U _ _ sS sB
def F6v(p:Prog)(h:p.Sm)(d:Decl)(E:d.Sm):Ac prog 184 [D7 p,Ma d] (.d (.slice (Ar (Ga p d)))):=(E3k p h d E).pub
abbrev rsC(r:Fj):Ap:=.cells [.d (.int .i64 r.pos),.d (.bool r.bad),.d (.bool r.Cv)]
abbrev En:List Nat:=[0,1,2,4,5,6,7,8,19,34,52,58,69,79]
set_option maxHeartbeats 4000000 in
def E8z(p:Prog)(h:p.Sm)(a6:p.decls.length<=100000)(i:Nat)(d:Decl)(hd:p.decls[i]?=some d)(hk:d.kind=1\/d.kind=2)(a4:∀s,s∈d.sigs->d.A1.length+s.A1.length<=sm) :
  Ac prog 118 [D7 p,A8 i] (Lr (Ib (B2v p i d))):=by
 have J:=h.decls.2 d (Br hd);have a1:=A8u p d.name;have O:=D6b p h [] d.A1 (by simpa using J.A1.1) (by simp) J.A1.2;have M:=D1e p h d.A1 J.A1.1 J.A1.2 d.fields J.fields.1 J.fields.2;have a2:=G6h p a6 d.name;have I:=A9c (B0b p d.name) d.name;unfold B2v;refine cB func118 ?_;refine sR En ?_
 (refine sV En λK z=>?_;refine ci (Ev hd) ?_;apply z;clear z K)
 (refine A0.zz 2 rfl rfl ?_;refine A0.zz 5 rfl rfl (wk [(1,A8 i),(2,.Ah (An p) 0),(4,.box 4 0),(5,.Ah (Bb d) 0)] [(4,Iz)] ?_))
 by_cases h0:findD d.name p.decls 0=(i:Int);rotate_left
 .rw[A9 h0];refine sK λE u1=>?_
  (refine sV En λK z=>?_;refine⟨_,.inl ⟨_,rfl,a1,rfl⟩,?_⟩;(try refine As h0 ?_);apply z;clear z K)
  refine tI ?_;refine sR En ?_;exact aR
 rw[A6 λhh=>hh h0];rw[h0]at a1;refine kC a1 En λE u1=>?_;refine kI u1 ?_;clear u1 E;cases hf:Zm p [] d.A1 with
 |some q =>
  rw[hf]at O;simp only[Lr,Ib,Mm]at O;refine sC O En ?_;refine kR En λE u1=>?_;refine A0.ff rfl (A0.kk (u1 _ _ ?_));clear u1 E;refine sK λE u1=>?_;rcases hk with k1|k2
  .refine Aq k1 En ?_;refine tI ?_;refine sR En ?_;exact aR
  .have k1:¬d.kind=1:=by omega
   refine Aq k1 En ?_;refine kI u1 ?_;clear u1 E;refine sR En ?_;refine kR En λE u1=>?_;refine A0.bb (A0.loop (X:=Unit) (λ_=>[(1,A8 i),(2,.Ah (An p) 0),(4,.box 4 0),(5,.Ah (Bb d) 0),(6,.box 6 0),(8,A8 0)]) (λ_=>[(4,Iz),(6,rsC (Mm q))]) (λ_=>True) (λ_=>0) () trivial (by simp[sle,Ax,Ag,Bb,An]) (by simp[ble,A7,Mm]) ?_);intro _ _;refine sK λK2 u2=>?_;by_cases hl:(0:Int)<(d.sigs.length:Int)
   .refine Aq hl En ?_;refine A0.ss rfl ?_;simp only[A4,Ab,Ae];refine u1 _ _<|sR En ?_;exact aR
   .refine Aq hl En ?_;refine A0.ss rfl ?_;simp only[A4,Ab,Ae];refine u1 _ _<|sR En ?_;exact aR
 |none =>
  rw[hf]at O;simp only[Lr,Ib,Pm]at O;simp only;refine sC O En ?_;by_cases k1:d.kind=1
  .rw[A9 k1];cases hp:Vf p d.A1 [] d.fields with
   |some q =>rw[hp]at M;simp only[Lr,Ib,Mm]at M;refine Ai k1 En λE u1=>?_;refine A0.tt rfl<|sC M En ?_;refine dR En 10 ?_;refine A0.ff rfl (A0.kk ?_);simp only[A4,];refine u1 _ _ ?_;clear u1 E;refine kR En λE u1=>?_;refine tI ?_;refine sR En ?_;exact aR
   |none =>
    rw[hp]at M;simp only[Lr,Ib,Pm]at M;simp only;by_cases U:d.name∈B0b p d.name
    .rw[A9 U];rw[Bo U]at I;refine Ai k1 En λE u1=>?_;refine A0.tt rfl<|sC M En ?_
     (refine sG En [] 10 [] λK z=>?_;refine ev ?_;refine cc a2 ?_;refine cc I ?_;apply z;clear z K)
     refine A0.tt rfl ?_
     (refine lV En λK z=>?_;apply z;clear z K;try simp only[A4,])
     refine u1 _ _ ?_;clear u1 E;refine kR En λE u1=>?_;refine tI ?_;refine sR En ?_;exact aR
    .rw[A6 U];rw[Ce U]at I;refine Ai k1 En λE u1=>?_;refine A0.tt rfl<|sC M En ?_
     (refine sG En [] 10 [] λK z=>?_;refine ev ?_;refine cc a2 ?_;refine cc I ?_;apply z;clear z K)
     refine A0.ff rfl (A0.kk ?_);simp only[A4,];refine u1 _ _ ?_;clear u1 E;refine kR En λE u1=>?_;refine tI ?_;refine sR En ?_;exact aR
  rw[A6 k1];refine Ai k1 En λE u1=>?_;refine A0.ff rfl (A0.kk (u1 _ _ ?_));clear u1 E;refine Ai k1 En λE u1=>?_;refine kI u1 ?_;clear u1 E;refine sR En ?_;refine A0.pp 7 1 7 rfl<|kR En λE u1=>?_;have a0:∀(r:Fj),r=Ib (Yn p d.A1 [] d.sigs)->∀sl bx,sle sl [(4,.box 4 0),(6,.box 6 0)]->ble bx [(4,Iz),(6,rsC r)]->E sl bx:=by intro r hr sl bx h1 h2;refine u1 _ _ (A0.ww h1 h2 ?_);clear u1 E;refine sR En ?_;rw[<-hr];exact aR
  refine A0.bb (A0.loop (X:=Nat × Option Int) (λx=>[(1,A8 i),(2,.Ah (An p) 0),(4,.box 4 0),(5,.Ah (Bb d) 0),(6,.box 6 0),(7,.acc 7),(8,A8 x.1)]) (λx=>[(4,Iz),(6,rsC (Ib x.2)),(7,.rows 1 (C5 ((d.sigs.take x.1).map (·.name))))])
   (λx=>x.1<=d.sigs.length/\(match x.2 with|some q=>Yn p d.A1 [] d.sigs=some q|none=>Yn p d.A1 ((d.sigs.take x.1).map (·.name)) (d.sigs.drop x.1)=Yn p d.A1 [] d.sigs))
   (λx=>d.sigs.length - x.1) (0,none) ⟨by simp,by simp⟩ (by simp[sle,Ax,Ag,Bb,An]) (by simp[ble,A7,C5,Ib,Pm]) ?_)
  rintro⟨j,o⟩ ⟨hj,L⟩;simp only at hj L;by_cases V:j<d.sigs.length
  .have W:(j:Int)<(d.sigs.length:Int):=by omega
   cases o with
   |some q =>simp only at L;refine Ai W En λK2 u2=>?_;refine A0.ss rfl ?_;simp only[A4,Ab,Ae];exact a0 (Mm q) (by rw[L];rfl) _ _ sS (by simp[ble,A7,Ib])
   |none =>
    simp only at L;have hs:d.sigs[j]?=some d.sigs[j]:=B8 V;have Z:d.sigs[j]∈d.sigs:=Fa V;have dp:d.sigs.drop j=d.sigs[j]::d.sigs.drop (j+1):=Ge V;have tk:d.sigs.take (j+1)=d.sigs.take j++[d.sigs[j]]:=Yk V;have a3:=D6h p h d.A1 d.sigs[j] (a4 _ Z) J.A1.2 (J.sigs.2 _ Z);have a7:=J.sigs.1;generalize d.sigs[j]=s at*;rw[dp,Yn]at L;have I:=A9c ((d.sigs.take j).map (·.name)) s.name;refine Ai W En λK2 u2=>?_;refine gI u2 ?_;clear u2 K2;refine sK λK2 u2=>A0.bb<|sK λK3 u3=>?_;by_cases U:s.name∈(d.sigs.take j).map (·.name)
    .rw[A9 U]at L;rw[<-L];rw[Bo U]at I
     (refine sV En λK z=>?_;refine ci (F6 hs) ?_;refine⟨_,.inr ⟨_,rfl,I,rfl⟩,?_⟩;(try refine ev ?_);apply z;clear z K)
     refine tI ?_
     (refine sV En λK z=>?_;refine ci (F6 hs) ?_;apply z;clear z K)
     exact aR
    rw[A6 U]at L;rw[Ce U]at I
    (refine sV En λK z=>?_;refine ci (F6 hs) ?_;refine⟨_,.inr ⟨_,rfl,I,rfl⟩,?_⟩;(try refine ev ?_);apply z;clear z K)
    refine kI u3 ?_;clear u3 K3
    (refine sV En λK z=>?_;refine ci (F6 hs) ?_;refine⟨by simp,by simp only[Bn,Dx];unfold lim sm at*;omega,?_⟩;(try refine ev ?_);apply z;clear z K)
    (refine lG En [] 8 [] λK z=>?_;refine ev ?_;refine ci (F6 hs) ?_;refine cc a3 ?_;apply z;clear z K;try simp only[A4,Ab])
    refine u2 _ _ ?_;clear u2 K2;refine lT En ?_;refine⟨(j+1,Pe p d.A1 s),⟨by omega,?_⟩,by simp only;omega,(by simp[sle,Ax,Ag,Bb,An]),?_⟩
    .simp only;cases hq:Pe p d.A1 s with
     |some q=>rw[hq]at L;exact L.symm
     |none=>rw[hq]at L;simp only;rw[tk,Gg];exact L
    .simp only;rw[tk,Gg];cases Pe p d.A1 s <;> simp[ble,A7,C5,Ib,Pm,Mm]
  .have a5:j=d.sigs.length:=by omega
   subst a5;refine sK λK2 u2=>?_;cases o with
   |some q =>simp only at L;refine Aq B3 En ?_;refine A0.ss rfl ?_;simp only[A4,Ab,Ae];exact a0 (Mm q) (by rw[L];rfl) _ _ sS (by simp[ble,A7,Ib])
   |none =>simp only at L;rw[De,Yn]at L;refine Aq B3 En ?_;refine A0.ss rfl ?_;simp only[A4,Ab,Ae];exact a0 Pm (by rw[<-L];rfl) _ _ sS (by simp[ble,A7,Ib])
def E0s{d:Decl}(E:d.Sm):∀u,u∈E5 d.vars->u.Sm:=by intro u I;obtain⟨v,J,rfl⟩:=B1.1 I;exact .mk _ _ _ (E.vars.2 v J) (by simp) (by simp)
def C4z{p:Prog}(h:p.Sm){d:Decl}(I:d.Sm):∀f,f∈Ga p d->f.Sm:=by intro f E;unfold Ga at E;obtain⟨⟨l,v⟩,hz,rfl⟩:=B1.1 E;have J:=(B2m h d.name).2 l (As3 hz).1;exact⟨I.vars.2 v (As3 hz).2,J.bound.subst (E0s I)⟩
def C2d(p:Prog)(d:Decl):(Ga p d).length<=d.vars.length:=by unfold Ga;rw[Bn,Ao3];omega
abbrev Hq:List Nat:=[0,1,2,4,5,6,7,8,9,33,39,61,71,90,102]
set_option maxHeartbeats 4000000 in
def F1x(p:Prog)(h:p.Sm)(i:Nat)(d:Decl)(hd:p.decls[i]?=some d)(ad:d.vars.length+d.sig.A1.length<=sm) :
  Ac prog 119 [D7 p,A8 i] (Lr (Ib (B3p p i d))):=by
 have J:=h.decls.2 d (Br hd);have a4:=B0m p d.name;have a6:=B8y p d.name;have Z:=E5z p h.decls.1 d.name d.sig.name;have a7:=F6v p h d J;have ac:=C2d p d;have a8:=D6h p h (Ga p d) d.sig (by omega) (C4z h J) J.sig;have aa:=J.vars.1;unfold B3p;generalize Ga p d=ev at*;generalize Ey p d.name=L at*;refine cB func119 ?_;refine sR Hq ?_
 (refine sV Hq λK z=>?_;refine ci (Ev hd) ?_;apply z;clear z K)
 refine sR Hq ?_
 (refine A0.zz 2 rfl rfl ?_;refine A0.zz 5 rfl rfl (wk [(1,A8 i),(2,.Ah (An p) 0),(4,.box 4 0),(5,.Ah (Bb d) 0),(6,.box 6 0)] [(4,Iz),(6,rsC (Mm d.pos))] ?_))
 refine sK λV u1=>?_;by_cases a1:kindOf p d.name=1;rotate_left
 .rw[A9 (.inl a1)]
  (refine sG Hq [] 14 [] λK z=>?_;refine Go.Abs.ev ?_;refine⟨_,.inl ⟨_,rfl,a4,rfl⟩,?_⟩;(try refine Go.Abs.As a1 ?_);apply z;clear z K)
  refine tI ?_;refine sR Hq ?_;exact aR
 by_cases a2:d.vars.length=L.length;rotate_left
 .rw[A9 (.inr a2)];have U:¬(d.vars.length:Int)=(L.length:Int):=by omega
  (refine sG Hq [] 14 [] λK z=>?_;refine Go.Abs.ev ?_;refine⟨_,.inl ⟨_,rfl,a4,rfl⟩,?_⟩;(try refine Go.Abs.As a1 ?_);refine⟨_,.inl ⟨_,rfl,a6,rfl⟩,?_⟩;(try refine Go.Abs.As U ?_);apply z;clear z K)
  refine tI ?_;refine sR Hq ?_;exact aR
 rw[A6 (by rintro(hh|hh);exact hh a1;exact hh a2)]at u1 |-;have U:(d.vars.length:Int)=(L.length:Int):=by omega
 (refine sG Hq [] 14 [] λK z=>?_;refine Go.Abs.ev ?_;refine⟨_,.inl ⟨_,rfl,a4,rfl⟩,?_⟩;(try refine Go.Abs.Gv a1 U ?_);refine cc a6 ?_;apply z;clear z K)
 refine kI u1 ?_;clear u1 V a1 a2 U;refine kR Hq λV u1=>?_;refine A0.bb (A0.ii d.vars (X:=Unit) (λj _=>[(1,A8 i),(2,.Ah (An p) 0),(4,.box 4 0),(5,.Ah (Bb d) 0),(6,.box 6 0),(7,A8 j)]) (λ_ _=>[(4,Iz),(6,rsC (Mm d.pos))])
  (λj _=>A0q p (d.vars.take j) (d.vars.drop j)=A0q p [] d.vars) () (by simp) (by simp[sle,Ax,Ag,Bb,An]) (by simp[ble,A7,Mm]) ?_ ?_)
 rotate_left
 .intro j _ s hs a' dp tk O E;rw[dp,A0q]at E;have a5:=B0m p s;have M:Ac prog 180 [.d (.slice ((C5 d.vars).take j)),D9 s] (Ay (decide (s∈d.vars.take j))):=by
   rw[C5,<-List.map_take];exact A9c (d.vars.take j) s
  refine Ai O Hq λI u2=>?_;refine gI u2 ?_;clear u2 I;refine sK λI u2=>A0.bb ?_;by_cases b1:kindOf p s=0;rotate_left
  .rw[Bo (.inl b1),Up]at E;rw[A9 E.symm]
   (refine sG Hq [] 18 [] λK z=>?_;refine Go.Abs.ev ?_;refine ci (Ku hs) ?_;refine⟨_,.inl ⟨_,rfl,a5,rfl⟩,?_⟩;(try refine Go.Abs.As b1 ?_);apply z;clear z K)
   refine A0.tt rfl<|sR Hq ?_;exact aR
  by_cases b2:s∈d.vars.take j
  .rw[Bo (.inr b2),Up]at E;rw[A9 E.symm];rw[Bo b2]at M
   (refine sG Hq [] 18 [] λK z=>?_;refine Go.Abs.ev ?_;refine ci (Ku hs) ?_;refine⟨_,.inl ⟨_,rfl,a5,rfl⟩,?_⟩;(try refine Go.Abs.As b1 ?_);refine⟨A5n _,by omega,by omega,?_⟩;(try refine Go.Abs.As b1 ?_);refine ci (Ku hs) ?_;refine cc M ?_;apply z;clear z K)
   refine A0.tt rfl<|sR Hq ?_;exact aR
  rw[Ce (by rintro(hh|hh);exact hh b1;exact b2 hh),Ws]at E;rw[Ce b2]at M
  (refine sG Hq [] 18 [] λK z=>?_;refine Go.Abs.ev ?_;refine ci (Ku hs) ?_;refine⟨_,.inl ⟨_,rfl,a5,rfl⟩,?_⟩;(try refine Go.Abs.As b1 ?_);refine⟨A5n _,by omega,by omega,?_⟩;(try refine Go.Abs.As b1 ?_);refine ci (Ku hs) ?_;refine cc M ?_;apply z;clear z K)
  refine A0.ff rfl (A0.kk (u2 _ _ ?_));clear u2 I;refine lT Hq ?_;exact⟨(),by rw[tk];exact E,(by simp[sle,Ax,Ag,Bb,An]),(by simp[ble,A7,Mm])⟩
 intro _ E;rw[De,A0q]at E;rw[<-E,A6 (by decide)]at u1 |-;clear E;refine Ai B3 Hq λI u2=>?_;refine A0.ss rfl ?_;simp only[A4,Ab,Ae];refine u1 _ _ ?_;clear u2 I u1 V;refine sK λV u1=>?_;by_cases a3:P3 p d.name d.sig.name=(i:Int);rotate_left
 .rw[A9 a3]
  (refine sV Hq λK z=>?_;refine⟨_,.inl ⟨_,rfl,Z,rfl⟩,?_⟩;(try refine Go.Abs.As a3 ?_);apply z;clear z K)
  refine tI ?_;refine sR Hq ?_;exact aR
 rw[A6 λhh=>hh a3]at u1 |-;rw[a3]at Z;refine sC Z Hq ?_;refine kI u1 ?_;clear u1 V;generalize hq:Pe p ev d.sig=o at*;generalize hR:E2k d o=R at*
 (refine sG Hq [] 8 [⟨[],[],[8],[8]⟩,⟨[],[],[8],[8]⟩,⟨[],[],[8],[8]⟩,⟨[],[],[8],[8]⟩,⟨[],[],[8],[8]⟩,⟨[],[],[8],[8]⟩,⟨[],[],[8],[8]⟩,⟨[8],[8],[],[]⟩] λK z=>?_;refine Go.Abs.ev ?_;refine cc a7 ?_;refine cc a8 ?_;apply z;clear z K)
 refine kR Hq λV u1=>?_;have a0:∀(r:Fj),r=Ib R->∀sl bx,sle sl [(4,.box 4 0),(8,.box 8 0)]->ble bx [(4,Iz),(8,rsC r)]->V sl bx:=by intro r hr sl bx h1 h2;refine u1 _ _ (A0.ww h1 h2 ?_);clear u1 V;refine sR Hq ?_;rw[<-hr];exact aR
 refine A0.bb (A0.loop (X:=Nat × Option Int) (λx=>[(1,A8 i),(2,.Ah (An p) 0),(4,.box 4 0),(5,.Ah (Bb d) 0),(8,.box 8 0),(9,A8 x.1)]) (λx=>[(4,Iz),(8,rsC (Ib x.2))])
  (λx=>x.1<=d.sig.params.length/\(match x.2 with|some q=>R=some q|none=>R=((d.sig.params.drop x.1).find? λf=>decide (f.name=d.recv)).map (·.pos)))
  (λx=>d.sig.params.length - x.1) (0,o) ⟨by simp,by cases o <;> exact hR.symm⟩ (by simp[sle,Ax,Ag,Bb,An]) (by simp[ble,A7,Ib]) ?_)
 rintro⟨j,o⟩ ⟨hj,E⟩;simp only at hj E;by_cases O:j<d.sig.params.length
 .have W:(j:Int)<(d.sig.params.length:Int):=by omega
  cases o with
  |some q =>simp only at E;refine Ai W Hq λI u2=>?_;refine A0.ss rfl ?_;simp only[A4,Ab,Ae];exact a0 (Mm q) (by rw[E];rfl) _ _ sS (by simp[ble,A7,Ib])
  |none =>
   simp only at E;have hs:d.sig.params[j]?=some d.sig.params[j]:=B8 O;have dp:d.sig.params.drop j=d.sig.params[j]::d.sig.params.drop (j+1):=Ge O;have ab:=J.sig.params.1;generalize d.sig.params[j]=s at*;rw[dp,At8]at E;refine Ai W Hq λI u2=>?_;refine gI u2 ?_;clear u2 I;refine sK λI u2=>A0.bb ?_;by_cases hm:s.name=d.recv
   .rw[Bo hm]at E
    (refine sG Hq [] 9 [] λK z=>?_;refine Go.Abs.ev ?_;refine⟨by omega,_,E9 hs,rfl,?_⟩;(try refine Go.Abs.As hm ?_);apply z;clear z K)
    refine A0.tt rfl ?_
    (refine lV Hq λK z=>?_;refine ci (E9 hs) ?_;apply z;clear z K;try simp only[A4,Ab])
    refine u2 _ _ ?_;clear u2 I;refine lT Hq ?_;exact⟨(j+1,some s.pos),⟨by omega,by simpa using E⟩,by simp only;omega,(by simp[sle,Ax,Ag,Bb,An]),by simp[ble,A7,Ib,Mm]⟩
   .rw[Ce hm]at E
    (refine sG Hq [] 9 [] λK z=>?_;refine Go.Abs.ev ?_;refine⟨by omega,_,E9 hs,rfl,?_⟩;(try refine Go.Abs.As hm ?_);apply z;clear z K)
    refine A0.ff rfl (A0.kk (u2 _ _ ?_));clear u2 I;refine lT Hq ?_;exact⟨(j+1,none),⟨by omega,E⟩,by simp only;omega,(by simp[sle,Ax,Ag,Bb,An]),by simp[ble,A7,Ib]⟩
 .have a9:j=d.sig.params.length:=by omega
  subst a9;refine Ai B3 Hq λI u2=>?_;refine A0.ss rfl ?_;simp only[A4,Ab,Ae];cases o with
  |some q =>simp only at E;exact a0 (Mm q) (by rw[E];rfl) _ _ sS (by simp[ble,A7,Ib])
  |none =>simp only at E;rw[De]at E;exact a0 Pm (by rw[E];rfl) _ _ sS (by simp[ble,A7,Ib])
structure Decl.Two(d:Decl):Prop where
 sigs:∀s,s∈d.sigs->d.A1.length+s.A1.length<=sm
 sig:d.vars.length+d.sig.A1.length<=sm
def Decl.Nn.two{d:Decl}(h:d.Nn):d.Two:=⟨λs hs=>by have:=(h.sigs s hs).C0s;have:=h.C0s;unfold sm;omega,by have:=h.sig.C0s;have:=h.F0e;unfold sm;omega⟩
abbrev N7:List Nat:=[0,1,2,4,5,14,27,32]
def G2b(p:Prog)(h:p.Sm)(U:p.decls.length<=100000)(i:Nat)(d:Decl)(I:p.decls[i]?=some d)(V:d.Two):Ac prog 68 [D7 p,A8 i] (Lr (Ib (Zj p i d))):=by
 have W:=(B5.1 I).1;have O:¬(i:Int)<0:=by omega
 have M:¬(i:Int) >= (p.decls.length:Int):=by omega
 unfold Zj;by_cases J:d.kind=1\/d.kind=2
 .rw[A9 J];have L:=E8z p h U i d I J V.sigs;generalize Ib (B2v p i d)=r at*;refine cB func68 ?_;refine sR N7 ?_;refine Sv O M N7 λE u1=>?_;refine kI u1 ?_;clear u1 E
  (refine sV N7 λK z=>?_;refine ci (Ev I) ?_;apply z;clear z K)
  refine sK λE u1=>?_;by_cases k1:d.kind=1
  .refine Aq k1 N7 ?_;refine tI ?_;refine sC L N7 ?_;exact aR
  .have k2:d.kind=2:=by omega
   refine Aq k2 N7 ?_;refine tI ?_;refine sC L N7 ?_;exact aR
 rw[A6 J];obtain⟨k1,k2⟩:=Uh.1 J;by_cases k3:d.kind=3
 .rw[A9 k3];have L:=F1x p h i d I V.sig;generalize Ib (B3p p i d)=r at*;refine cB func68 ?_;refine sR N7 ?_;refine Sv O M N7 λE u1=>?_;refine kI u1 ?_;clear u1 E
  (refine sV N7 λK z=>?_;refine ci (Ev I) ?_;apply z;clear z K)
  refine Sv k1 k2 N7 λE u1=>?_;refine kI u1 ?_;clear u1 E;refine Ai k3 N7 λE u1=>?_;refine tI ?_;refine sC L N7 ?_;exact aR
 rw[A6 k3];refine cB func68 ?_;refine sR N7 ?_;refine Sv O M N7 λE u1=>?_;refine kI u1 ?_;clear u1 E
 (refine sV N7 λK z=>?_;refine ci (Ev I) ?_;apply z;clear z K)
 refine Sv k1 k2 N7 λE u1=>?_;refine kI u1 ?_;clear u1 E;refine Ai k3 N7 λE u1=>?_;refine kI u1 ?_;clear u1 E
 (refine sV N7 λK z=>?_;refine ci (Ev I) ?_;apply z;clear z K)
 exact aR
abbrev W9(c:C3):SV:=.agg [.d (.slice (Ix c.p.decls)),.d (.int .i64 c.p.main.kind),.d (.str c.p.main.name),.d (.str c.p.main.type.name),.d (.slice (Au c.p.main.type.args)),.d (.int .i64 c.p.main.type.pos),.d (.slice (Au c.p.main.targs)),.d (.slice (Ew c.p.main.kids)),.d (.int .i64 c.p.main.pos),.d (.bool c.strict),.d (.slice (Ar c.env)),.d (.slice (B9 c.vars))]
def G6(c:C3):List D:=[.slice (Ix c.p.decls),.int .i64 c.p.main.kind,.str c.p.main.name,.str c.p.main.type.name,.slice (Au c.p.main.type.args),.int .i64 c.p.main.type.pos,.slice (Au c.p.main.targs),.slice (Ew c.p.main.kids),.int .i64 c.p.main.pos,.bool c.strict,.slice (Ar c.env),.slice (B9 c.vars)]
abbrev trV(z:Ty × Fj):SV:=.tuple [B6 z.1,Lr z.2]
abbrev H9:Ap:=.cells [.d (.str []),.d .nil,.d (.int .i64 0)]
structure C3.Sm(c:C3):Prop where
 p:c.p.Sm
 el:c.env.length<=sm
 env:∀f,f∈c.env->f.Sm
 vl:c.vars.length<=sm
 vars:∀f,f∈c.vars->f.Sm
def A9p{p:Prog}(h:p.Sm){x:Ty}(M:x.Sm):∀f,f∈Bh p x->f.Sm:=by
 intro f E;unfold Bh at E;split at E
 .rename_i J;obtain⟨d,I,_⟩:=Qa (by decide) J;rw[I,E1]at E;unfold fieldsD at E;obtain⟨g,L,rfl⟩:=B1.1 E;have:=(h.decls.2 d (Qc I)).fields.2 g L;exact⟨this.name,this.type.subst M.arg⟩
 .simp at E
def I5:ty0.Sm:=.mk _ _ _ (by simp) (by simp) (by simp)
def B4h{c:C3}(J:c.Sm):∀e:Ex,e.Sm->(Di c e).1.Sm:=by
 intro e
 induction e using Ex.induct with|_ e V=>?_
 intro I;rw[C3b];unfold A2m;split
 .unfold A6i;split
  .rename_i f M;split
   .exact I5
   .exact(J.vars f (Br M)).type
  .exact I5
 split
 .unfold B5p;split
  .exact I5
  .split
   .exact I5
   .exact I.type
 split
 .exact I5
 split
 .exact I5
 .rename_i z Z hz;cases E:e.kids with
  |nil=>rw[E]at hz;simp at hz
  |cons v vs =>
   rw[E]at hz;simp only[Ck,Sj]at hz;obtain⟨rfl,rfl⟩:=hz;have U:=V v (by rw[E];simp) (I.kids.2 v (by rw[E];simp));split
   .exact U
   split
   .unfold A7m;split
    .exact I5
    .rename_i s hs;unfold T1;split
     .exact I5
     .have L:s∈D8 c.p c.env (Di c v).1:=by
       unfold Ly at hs;split at hs
       .cases hs
       .rename_i W O;split at hs
        .cases hs
        .split at hs
         .cases hs
         .split at hs
          .cases hs
          .split at hs
           .cases hs
           .cases hs;exact Br O
      exact(Ya J.p J.env U s L).result.subst I.targs.2
   split
   .unfold A1a;split
    .exact I5
    .split
     .rename_i f M;split
      .exact I5
      .unfold T1;split
       .exact I5
       .exact(A9p J.p U f (Br M)).type
     .exact I5
   .unfold B6t;split
    .exact I5
    .split
     .exact I5
     .exact I.type
def A9k(n:Int):Ac prog 122 [A8 n] (trV (L4 n)):=by refine cB func122 ?_;refine sR [0,2,3] ?_;refine sR [0,2,3] ?_;exact aR
abbrev A7y:List Nat:=[0,1,2,3,4,5,13]
def D9i(x:Ty)(r:Fj):Ac prog 127 [B6 x,Lr r] (trV (T1 (x,r))):=by
 have I:=Zt x 0 (by decide) (by decide);obtain⟨q,b,l⟩:=r;unfold T1;simp only;refine cB func127 ?_;refine sR A7y ?_
 (refine A0.zz 2 rfl rfl ?_;refine A0.zz 3 rfl rfl (wk [(2,.Ah (Be x) 0),(3,.Ah [.int .i64 q,.bool b,.bool l] 0),(4,.box 4 0),(5,.box 5 0)] [(4,H9),(5,Iz)] ?_))
 cases b with
 |true =>
  rw[A6 (by simp)];refine kR A7y λE u1=>?_;refine kI u1 ?_
  (refine sG A7y [] 3 [⟨[],[],[],[]⟩,⟨[],[],[4],[]⟩,⟨[4],[],[],[]⟩] λK z=>?_;refine ev ?_;apply z;clear z K)
  exact aR
 |false =>
  by_cases h:400<x.count 0
  .rw[A9 ⟨rfl,h⟩];refine sK λE u1=>?_
   (refine sV A7y λK z=>?_;refine⟨_,.inl ⟨_,rfl,I,rfl⟩,?_⟩;(try simp -implicitDefEqProofs only[EV,Nat.reduceEqDiff,reduceCtorEq,h]);apply z;clear z K)
   refine tI ?_;refine sR A7y ?_;exact aR
  .rw[A6 (λJ=>h J.2)];refine sK λE u1=>?_
   (refine sV A7y λK z=>?_;refine⟨_,.inl ⟨_,rfl,I,rfl⟩,?_⟩;(try simp -implicitDefEqProofs only[EV,Nat.reduceEqDiff,reduceCtorEq,h]);apply z;clear z K)
   refine kI u1 ?_
   (refine sG A7y [] 3 [⟨[],[],[],[]⟩,⟨[],[],[4],[]⟩,⟨[4],[],[],[]⟩] λK z=>?_;refine ev ?_;apply z;clear z K)
   exact aR
def D4y(c:C3)(J:c.Sm)(x:Ty):Ac prog 124 [W9 c,B6 x] (Ay (Hk c x)):=by
 have E:=A8y c.env x J.el;have I:=A5q c.p x 1;unfold Hk;generalize Ez c.env x=z at*;generalize Ch c.p x 1=b at*;by_cases hz:z<0
 .rw[Bo hz,Cr];refine cB func124 ?_;refine sR [0,1,2,3,4] ?_
  (refine sV [0,1,2,3,4] λK z=>?_;refine⟨_,.inl ⟨_,rfl,E,rfl⟩,?_⟩;(try refine As hz ?_);refine cc I ?_;apply z;clear z K)
  exact aR
 .rw[Ce hz,C9];refine cB func124 ?_;refine sR [0,1,2,3,4] ?_
  (refine sV [0,1,2,3,4] λK z=>?_;refine⟨_,.inl ⟨_,rfl,E,rfl⟩,?_⟩;(try refine As hz ?_);apply z;clear z K)
  exact aR
def E0k(c:C3)(J:c.Sm)(x:Ty):Ac prog 129 [W9 c,B6 x] (Ay (A4n c x)):=by
 have E:=A8y c.env x J.el;have I:=A5q c.p x 2;unfold A4n;generalize Ez c.env x=z at*;generalize Ch c.p x 2=b at*;by_cases hz:0<=z
 .rw[Bo hz,Up];refine cB func129 ?_;refine sR [0,1,2,3,4] ?_
  (refine sV [0,1,2,3,4] λK z=>?_;refine⟨_,.inl ⟨_,rfl,E,rfl⟩,?_⟩;(try refine As hz ?_);apply z;clear z K)
  exact aR
 .rw[Ce hz,Ws];refine cB func129 ?_;refine sR [0,1,2,3,4] ?_
  (refine sV [0,1,2,3,4] λK z=>?_;refine⟨_,.inl ⟨_,rfl,E,rfl⟩,?_⟩;(try refine As hz ?_);refine cc I ?_;apply z;clear z K)
  exact aR
abbrev Vv:List Nat:=[0,1,2,3,4,5,6,7,8,27]
def D8g(c:C3)(I:c.Sm)(e:Ex)(hT:Ac prog 70 [W9 c,D0 e] (trV (Di c e)))(L:(Di c e).1.Sm)(w:Ty)(M:w.Sm):Ac prog 120 [W9 c,D0 e,B6 w] (Lr (V4 c w e (Di c e))):=by
 have E:=A8r c.p I.p c.env I.el I.env (Di c e).1 w L M;unfold V4;generalize Di c e=z at*;obtain⟨x,⟨q,b,l⟩⟩:=z;simp only at E L |-;cases b with
 |true =>rw[A6 (by simp)];refine cB func120 ?_;refine sR Vv ?_;refine sC hT Vv ?_;refine kR Vv λJ u1=>?_;refine kI u1 ?_;refine sR Vv ?_;exact aR
 |false =>
  generalize Dd c.p c.env x w=b at*;cases b with
  |true =>rw[A6 (by simp)];refine cB func120 ?_;refine sR Vv ?_;refine sC hT Vv ?_;refine kC E Vv λJ u1=>?_;refine kI u1 ?_;refine sR Vv ?_;exact aR
  |false =>rw[A9 ⟨rfl,rfl⟩];refine cB func120 ?_;refine sR Vv ?_;refine sC hT Vv ?_;refine kC E Vv λJ u1=>?_;refine tI ?_;refine sR Vv ?_;exact aR
abbrev A0y:List Nat:=[0,1,2,3,4,5,10,11,12,16,34]
def E3c(c:C3)(l:List Ex)(a0:l.length<=sm)(params:List Param)(a1:params.length=l.length)(L:∀f,f∈params->f.Sm)(names:List A3)(args:List Ty)(ha:∀u,u∈args->u.Sm)
  (hF:∀k,k∈l->∀w:Ty,w.Sm->Ac prog 120 [W9 c,D0 k,B6 w] (Lr (V4 c w k (Di c k)))) :
  Ac prog 125 [W9 c,.d (.slice (Ew l)),.d (.slice (B9 params)),Cy names,Cd args] (Lr (L9 c (params.map λf=>f.type.subst names args) l (l.map (Di c)))):=by
 generalize hR:L9 c (params.map λf=>f.type.subst names args) l (l.map (Di c))=R;refine cB func125 ?_;refine sR A0y ?_
 (refine A0.zz 5 rfl rfl (wk [(1,.d (.slice (Ew l))),(2,.d (.slice (B9 params))),(3,Cy names),(4,Cd args),(5,.Ah (G6 c) 0),(10,.box 10 0)] [(10,Iz)] ?_))
 refine kR A0y λK1 u1=>?_;refine A0.bb (A0.ii l (X:=Unit) (λj _=>[(1,.d (.slice (Ew l))),(2,.d (.slice (B9 params))),(3,Cy names),(4,Cd args),(5,.Ah (G6 c) 0),(10,.box 10 0),(11,A8 j)]) (λ_ _=>[(10,Iz)])
  (λj _=>L9 c ((params.drop j).map λf=>f.type.subst names args) (l.drop j) ((l.drop j).map (Di c))=R) () hR (by simp[sle,Ax,Ag,G6]) sB ?_ ?_)
 rotate_left
 .intro j _ k hk J dp tk Z E;have W:j<params.length:=by omega
  have hp:params[j]?=some params[j]:=B8 W;have I:=Fa W;have U:params.drop j=params[j]::params.drop (j+1):=Ge W;generalize params[j]=f at*;rw[dp,U,Ck,Ck,L9]at E;have hs:=Vy names args ha f.type (L f I).type;have hf:=hF k J (f.type.subst names args) ((L f I).type.subst ha);generalize V4 c (f.type.subst names args) k (Di c k)=r at*;refine Ai Z A0y λM u2=>?_;refine gI u2 ?_;clear u2 M;refine sK λM u2=>A0.bb ?_
  (refine sG A0y [] 15 [⟨[],[],[12],[12]⟩,⟨[],[],[12],[12]⟩,⟨[],[],[12],[12]⟩,⟨[],[],[12],[12]⟩,⟨[],[],[12],[12]⟩,⟨[],[],[12],[12]⟩,⟨[],[],[12],[12]⟩,⟨[],[],[12],[12]⟩,⟨[],[],[12],[12]⟩,⟨[],[],[12],[12]⟩,⟨[],[],[12],[12]⟩,⟨[],[],[12],[12]⟩,⟨[],[],[12],[12]⟩,⟨[],[],[12],[12]⟩,⟨[12],[12],[],[]⟩] λK z=>?_;simp -implicitDefEqProofs only[EV,Nat.reduceAdd,Nat.reduceEqDiff,Nat.reduceBEq,reduceCtorEq,A2q,Iu,A7v,G6];refine ci (Dn hk) ?_;refine ci (E9 hp) ?_;refine cc hs ?_;refine cc hf ?_;apply z;clear z K)
  refine sR A0y ?_;refine A0.cond rfl (λV=>?_) (λV=>?_)
  .rw[A9 V]at E;refine sR A0y ?_;rw[<-E];exact aR
  .rw[A6 (by rw[V];simp)]at E;refine A0.kk (u2 _ _ ?_);clear u2 M;refine lT A0y ?_;exact⟨(),E,(by simp[sle,Ax,Ag,G6]),sB⟩
 intro _ E;rw[De]at E;have O:R=Pm:=by rw[<-E];cases (params.drop l.length).map λf=>f.type.subst names args <;> rfl
 subst O;refine Ai B3 A0y λM u2=>?_;refine A0.ss rfl ?_;simp only[A4,Ab,Ae];refine u1 _ _<|sR A0y ?_;exact aR
def E0p{c:C3}{e:Ex}{x:Ty}{j:Nat}{s:A5}(J:Gj (D8 c.p c.env x) e.name=j)(I:(D8 c.p c.env x)[j]?=some s):Ly c e x=if s.A1.length≠e.targs.length then .inl e.pos else
  match Je c.p c.env e.targs with
  |some q=>.inl q
  |none=>if 0<=G4 c.p c.env s.A1 e.targs then .inl ((e.targs[(G4 c.p c.env s.A1 e.targs).toNat]?).getD default).pos else
   if e.kids.length≠s.params.length+1 then .inl e.pos else .inr s:=by
 unfold Ly;rw[J,Hs,I];simp only;by_cases E:s.A1.length≠e.targs.length
 .rw[A9 (.inr E),A9 E]
 .rw[A6 (by rintro(h|h);omega;exact E h),A6 E] <;> rfl
abbrev Iv:List Nat:=[0,1,2,3,4,5,6,7,8,9,10,11,12,13,14,15,16,40,54,70,85,102]
def G1y(c:C3)(J:c.Sm)(e:Ex)(he:e.Sm)(x:Ty)(hx:x.Sm)(am:1<=e.kids.length)
  (hF:∀k,k∈e.kids.tail->∀w:Ty,w.Sm->Ac prog 120 [W9 c,D0 k,B6 w] (Lr (V4 c w k (Di c k)))) :
  Ac prog 126 [W9 c,D0 e,B6 x] (trV (A7m c e x (e.kids.tail.map (Di c)))):=by
 have a8:=B9a c.p J.p c.env J.el J.env x hx;have aj:=A4h J.p c.env x;have ab:=Ya J.p J.env hx;have a3:=C6p (D8 c.p c.env x) e.name aj;have O:=A9k e.pos;have ak:=he.targs.1;have a':=@E0p c e x;generalize hR:A7m c e x (e.kids.tail.map (Di c))=R;unfold A7m at hR;have a2:Ly c e x=.inl e.pos->R=L4 e.pos:=λh=>by rw[<-hR,h]
 have a1:Gj (D8 c.p c.env x) e.name = -1->Ly c e x=.inl e.pos:=λh=>by
  unfold Ly;rw[h];split
  .rfl
  .rw[A9 (.inl (by decide))]
 have a4:=M9 (λs:A5=>decide (s.name=e.name)) (D8 c.p c.env x);unfold Gj at a' a1;generalize D8 c.p c.env x=l at*;refine cB func126 ?_;refine sR Iv ?_
 (refine A0.zz 3 rfl rfl ?_;refine A0.zz 4 rfl rfl ?_;refine A0.zz 5 rfl rfl (wk [(3,.Ah (G6 c) 0),(4,.Ah (Bu e) 0),(5,.Ah (Be x) 0),(6,.box 6 0),(7,.box 7 0)] [(6,H9),(7,Iz)] ?_))
 (refine sQ Iv λK z=>?_;simp -implicitDefEqProofs only[EV,Nat.reduceAdd,Nat.reduceEqDiff,Nat.reduceLeDiff,reduceCtorEq,I3,A3i,B1j,A7v,G6];refine⟨_,.inl ⟨_,rfl,a8,rfl⟩,?_⟩;apply z;clear z K)
 refine sC a3 Iv ?_;rcases a4 with⟨h1,_⟩|⟨j,s,h1,h2,_⟩
 .rw[h1];obtain rfl:=a2 (a1 h1);refine sK λM u1=>dR Iv 12 ?_;refine tI ?_;refine sC O Iv ?_;exact aR
 have E:=a' h1 h2;have hs:=ab s (Br h2);rw[h1];have a9:¬(j:Int)<0:=by omega
 by_cases a0:s.A1.length=e.targs.length;rotate_left
 .rw[A9 a0]at E;obtain rfl:=a2 E;have Z:¬(s.A1.length:Int)=(e.targs.length:Int):=by omega
  refine sK λM u1=>?_
  (refine sG Iv [] 12 [] λK z=>?_;refine As a9 ?_;refine⟨by omega,_,F6 h2,rfl,?_⟩;(try refine As Z ?_);apply z;clear z K)
  refine tI ?_;refine sC O Iv ?_;exact aR
 rw[A6 λhh=>hh a0]at E;have Z:(s.A1.length:Int)=(e.targs.length:Int):=by omega
 have af:=D9p c.p J.p c.env J.el J.env s.A1 hs.A1.1 hs.A1.2 e.targs a0.symm he.targs.2;have ad:=@B9e c.p c.env s.A1 e.targs;refine sK λM u1=>?_
 (refine sG Iv [] 12 [] λK z=>?_;refine As a9 ?_;refine⟨by omega,_,F6 h2,rfl,?_⟩;(try refine As Z ?_);apply z;clear z K)
 refine kI u1 ?_;clear u1 M
 (refine sV Iv λK z=>?_;refine ci (F6 h2) ?_;apply z;clear z K)
 (refine A0.zz 10 rfl rfl (wk [(3,.Ah (G6 c) 0),(4,.Ah (Bu e) 0),(6,.box 6 0),(7,.box 7 0),(10,.Ah (Fw s) 0)] [(6,H9),(7,Iz)] ?_))
 refine sK λM u1=>?_
 (refine sQ Iv λK z=>?_;simp -implicitDefEqProofs only[EV,Nat.reduceEqDiff,reduceCtorEq,G6];apply z;clear z K)
 refine A0.bb (A0.ii e.targs (X:=Unit) (λj _=>[(3,.Ah (G6 c) 0),(4,.Ah (Bu e) 0),(6,.box 6 0),(7,.box 7 0),(10,.Ah (Fw s) 0),(11,A8 j)]) (λ_ _=>[(6,H9),(7,Iz)])
  (λj _=>Je c.p c.env (e.targs.drop j)=Je c.p c.env e.targs) () (by simp) (by simp[sle,Ax,Ag,G6,Bu,Fw]) sB ?_ ?_)
 rotate_left
 .intro j _ d hd a6 dp tk ai L;have I:=A8h c.p J.p c.env J.el J.env d (he.targs.2 d a6);rw[dp,Je]at L;refine sK λK2 u2=>?_
  (refine sQ Iv λK z=>?_;simp -implicitDefEqProofs only[EV,Nat.reduceEqDiff,reduceCtorEq,Lq,Iu,G6,ai];apply z;clear z K)
  refine gI u2 ?_;clear u2 K2;refine sK λK2 u2=>A0.bb ?_;cases ho:Bt c.p c.env d with
  |none =>
   rw[ho]at I L;simp only[U8]at I L
   (refine sG Iv [] 14 [] λK z=>?_;refine ev ?_;refine ci (Dv hd) ?_;refine cc I ?_;apply z;clear z K)
   refine sR Iv ?_;refine A0.ff rfl (A0.kk (u2 _ _ ?_));clear u2 K2
   (refine lV Iv λK z=>?_;refine⟨by first| (unfold Az;omega)| (simp only[Az,sm]at*;omega),?_⟩;apply z;clear z K;try simp only[A4,])
   exact⟨(),L,(by simp[sle,Ax,Ag,G6,Bu,Fw]),sB⟩
  |some q =>
   rw[ho]at I L;simp only[U8]at I L;rw[<-L]at E;obtain rfl:R=L4 q:=by rw[<-hR,E]
   have V:=A9k q
   (refine sG Iv [] 14 [] λK z=>?_;refine ev ?_;refine ci (Dv hd) ?_;refine cc I ?_;apply z;clear z K)
   refine sR Iv ?_;refine A0.tt rfl<|sC V Iv ?_;exact aR
 intro _ L;rw[De,Je]at L;rw[<-L]at E;simp only at E;clear L;refine sK λK2 u2=>?_
 (refine sQ Iv λK z=>?_;simp -implicitDefEqProofs only[EV,Nat.reduceEqDiff,reduceCtorEq,Lq,Iu,G6,B3];apply z;clear z K)
 refine A0.ss rfl ?_;simp only[A4,Ab,Ae];refine u1 _ _ ?_;clear u2 K2 u1 M;refine sC af Iv ?_;generalize G4 c.p c.env s.A1 e.targs=b at*;by_cases W:0<=b
 .obtain⟨u,hu⟩:=ad W a0.symm;rw[A9 W,hu,E1]at E;obtain rfl:R=L4 u.pos:=by rw[<-hR,E]
  have V:=A9k u.pos;refine Ai W Iv λM u1=>?_;refine tI ?_
  (refine sV Iv λK z=>?_;refine ci (Dv hu) ?_;refine cc V ?_;apply z;clear z K)
  exact aR
 rw[A6 W]at E;refine Ai W Iv λM u1=>?_;refine kI u1 ?_;clear u1 M;have ao:=hs.params.1;by_cases a5:e.kids.length=s.params.length+1;rotate_left
 .rw[A9 a5]at E;obtain rfl:=a2 E;have U:¬(e.kids.length:Int)=(s.params.length:Int)+1:=by omega
  refine sK λM u1=>?_
  (refine sQ Iv λK z=>?_;refine As U ?_;refine⟨by first| (unfold Az;omega)| (simp only[Az,sm]at*;omega),?_⟩;apply z;clear z K)
  refine tI ?_;refine sC O Iv ?_;exact aR
 rw[A6 λhh=>hh a5]at E;have U:(e.kids.length:Int)=(s.params.length:Int)+1:=by omega
 refine sK λM u1=>?_
 (refine sQ Iv λK z=>?_;refine As U ?_;refine⟨by first| (unfold Az;omega)| (simp only[Az,sm]at*;omega),?_⟩;apply z;clear z K)
 refine kI u1 ?_;clear u1 M;have ag:=Vq s.A1 hs.A1.1;have a7:=E3c c e.kids.tail (by rw[List.length_tail];omega) s.params (by rw[List.length_tail];omega) hs.params.2 (s.A1.map (·.name)) e.targs he.targs.2 hF;have ac:=Vy (s.A1.map (·.name)) e.targs he.targs.2 s.result hs.result;rw[E]at hR;simp only at hR;have aa:=D9i (s.result.subst (s.A1.map (·.name)) e.targs) (L9 c (s.params.map λf=>f.type.subst (s.A1.map (·.name)) e.targs) e.kids.tail (e.kids.tail.map (Di c)));have ah:R=T1 (s.result.subst (s.A1.map (·.name)) e.targs,L9 c (s.params.map λf=>f.type.subst (s.A1.map (·.name)) e.targs) e.kids.tail (e.kids.tail.map (Di c))):=hR.symm;rw[<-ah]at aa;have ae:Ew e.kids.tail=((Ew e.kids).take e.kids.length).drop 1:=by rw[Z8 (by rw[C1t];exact Bi _),S6,S6,<-List.map_drop,List.drop_one]
 rw[ae]at a7;generalize L9 c (s.params.map λf=>f.type.subst (s.A1.map (·.name)) e.targs) e.kids.tail (e.kids.tail.map (Di c))=r at*;obtain⟨rt,rr⟩:=R
 (refine sV Iv λK z=>?_;refine⟨_,.inl ⟨_,rfl,ag,rfl⟩,?_⟩;apply z;clear z K)
 (refine sG Iv [] 11 [⟨[],[],[16],[16]⟩,⟨[],[],[16],[16]⟩,⟨[],[],[16],[16]⟩,⟨[],[],[16],[16]⟩,⟨[],[],[16],[16]⟩,⟨[],[],[16],[16]⟩,⟨[],[],[16],[16]⟩,⟨[],[],[16],[16]⟩,⟨[],[],[16],[16]⟩,⟨[],[],[16],[16]⟩,⟨[16],[16],[],[]⟩] λK z=>?_;refine ev ?_;refine⟨C0a _,by omega,by omega,?_⟩;refine cc a7 ?_;apply z;clear z K)
 (refine sG Iv [] 10 [] λK z=>?_;refine ev ?_;refine cc ac ?_;refine cc aa ?_;apply z;clear z K)
 exact aR
def G9z{c:C3}{e:Ex}(h:G7 c.vars e.name = -1):A6i c e=L4 e.pos:=by
 unfold A6i;rw[h];split
 .rw[A9 (by decide)]
 .rfl
def G1v{c:C3}{e:Ex}{x:Ty}{r:Fj}(hs:Hk c x=true)(h:G7 (Bh c.p x) e.name = -1):A1a c e x r=L4 e.pos:=by
 unfold A1a;rw[A6 (by rw[hs];simp),h];split
 .rw[A9 (by decide)]
 .rfl
def D3h{c:C3}{x:Ty}(h:Hk c x=true):Ch c.p x 1=true:=by unfold Hk at h;rw[Bc]at h;exact h.2
def F8i{c:C3}{x:Ty}(h:¬ 0<=Ez c.env x):Zs c x=x:=by unfold Zs Cm;rw[A9 (by omega)];rfl
def F6x{c:C3}{x:Ty}{f:Am}(h:0<=Ez c.env x)(E:c.env[(Ez c.env x).toNat]?=some f):Zs c x=f.bound:=by unfold Zs Cm;rw[A6 (by omega),E];rfl
abbrev Bx:List Nat:=[0,1,2,3,4,5,6,7,8,9,10,11,12,13,14,15,16,19,24,35,50,61,82,117,133,138,147,151,164,174,199,205,212,240]
def C6i(c:C3)(O:c.Sm):∀e:Ex,e.Sm->Ac prog 70 [W9 c,D0 e] (trV (Di c e)):=by
 intro e
 induction e using Ex.induct with|_ e ih=>?_
 intro he;have I:=A9k e.pos;have hF:∀k,k∈e.kids->∀w:Ty,w.Sm->Ac prog 120 [W9 c,D0 k,B6 w] (Lr (V4 c w k (Di c k))):=λk hk w hw =>D8g c O k (ih k hk (he.kids.2 k hk)) (B4h O k (he.kids.2 k hk)) w hw
 have ae:=he.kids.1;have aj:=O.vl;rw[C3b];generalize E:A2m c e (e.kids.map (Di c))=R;unfold A2m at E;refine cB func70 ?_;refine sR Bx ?_
 (refine A0.zz 2 rfl rfl ?_;refine A0.zz 3 rfl rfl (wk [(2,.Ah (G6 c) 0),(3,.Ah (Bu e) 0),(4,.box 4 0),(5,.box 5 0)] [(4,H9),(5,Iz)] ?_))
 by_cases k1:e.kind=1
 .rw[A9 k1]at E;have d1:=Bo k1;refine sK λJ u1=>?_
  (refine sQ Bx λK z=>?_;simp -implicitDefEqProofs only[EV,Nat.reduceEqDiff,reduceCtorEq,J3,Iu,G6,d1];apply z;clear z K)
  refine tI ?_;refine kR Bx λK2 u2=>?_;refine A0.bb (A0.ii c.vars (X:=Unit) (λj _=>[(2,.Ah (G6 c) 0),(3,.Ah (Bu e) 0),(4,.box 4 0),(5,.box 5 0),(6,A8 j)]) (λ_ _=>[(4,H9),(5,Iz)])
   (λj _=>∀y,y∈c.vars.take j->(λf:Param=>decide (f.name=e.name)) y=false) () (by simp) (by simp[sle,Ax,Ag,G6,Bu]) sB ?_ ?_)
  rotate_left
  .intro j _ d hd aa dp tk a' hI;refine sK λK3 u3=>?_
   (refine sQ Bx λK z=>?_;simp -implicitDefEqProofs only[EV,Nat.reduceEqDiff,reduceCtorEq,Vi,A7v,G6,a'];apply z;clear z K)
   refine gI u3 ?_;clear u3 K3;refine sK λK3 u3=>A0.bb ?_;by_cases hn:d.name=e.name
   .have a6:G7 c.vars e.name=j:=Tt hd (by simp[hn]) hI;have ah:¬(j:Int)<0:=by omega
    obtain rfl:R=(d.type,Pm):=by rw[<-E];unfold A6i;rw[a6,Hs,hd];simp only;rw[A6 ah]
    have dn:=Bo hn
    (refine sG Bx [] 8 [] λK z=>?_;refine ev ?_;refine⟨by omega,_,E9 hd,rfl,?_⟩;(try refine As dn ?_);apply z;clear z K)
    refine A0.tt rfl ?_
    (refine sV Bx λK z=>?_;refine ci (E9 hd) ?_;apply z;clear z K)
    exact aR
   ·(refine sG Bx [] 8 [] λK z=>?_;refine ev ?_;refine⟨by omega,_,E9 hd,rfl,?_⟩;(try refine As hn ?_);apply z;clear z K)
    refine A0.ff rfl (A0.kk (u3 _ _ ?_));clear u3 K3
    (refine lV Bx λK z=>?_;refine⟨by first| (unfold Az;omega)| (simp only[Az,sm]at*;omega),?_⟩;apply z;clear z K;try simp only[A4,])
    refine⟨(),?_,(by simp[sle,Ax,Ag,G6,Bu]),sB⟩;intro y hy;rw[tk,D2]at hy;rcases hy with hy|hy
    .exact hI y hy
    .simp only[Ps]at hy;subst hy;exact Ce hn
  intro _ hI;rw[Dm]at hI;obtain rfl:R=L4 e.pos:=by rw[<-E];exact G9z (Tn hI)
  refine sK λK3 u3=>?_
  (refine sQ Bx λK z=>?_;simp -implicitDefEqProofs only[EV,Nat.reduceEqDiff,reduceCtorEq,Vi,A7v,G6,B3];apply z;clear z K)
  refine A0.ss rfl ?_;simp only[A4,Ab,Ae];refine u2 _ _<|sC I Bx ?_;exact aR
 rw[A6 k1]at E;refine sK λJ u1=>?_
 (refine sQ Bx λK z=>?_;simp -implicitDefEqProofs only[EV,Nat.reduceEqDiff,reduceCtorEq,J3,Iu,G6,k1];apply z;clear z K)
 refine kI u1 ?_;clear u1 J;by_cases k3:e.kind=3
 .rw[A9 k3]at E;unfold B5p at E;have d3:=Bo k3;have M:=A8h c.p O.p c.env O.el O.env e.type he.type;have hst:=D4y c O e.type;refine Ai d3 Bx λJ u1=>?_;refine tI ?_;cases ho:Bt c.p c.env e.type with
  |some q =>rw[ho]at M E;simp only[U8]at M E;have a1:=A9k q;subst E;refine sC M Bx ?_;refine kR Bx λK2 u2=>?_;refine tI ?_;refine sC a1 Bx ?_;exact aR
  |none =>
   rw[ho]at M E;simp only[U8]at M E;refine sC M Bx ?_;refine kR Bx λK2 u2=>?_;refine kI u2 ?_;clear u2 K2;rcases Fb (Hk c e.type)with hs|hs
   rotate_left
   .rw[A9 (.inl hs)]at E;subst E;rw[hs]at hst;refine sK λK2 u2=>?_
    (refine sG Bx [] 15 [] λK z=>?_;refine ev ?_;refine cc hst ?_;apply z;clear z K)
    refine tI ?_;refine sC I Bx ?_;exact aR
   have a2:=C0f c.p O.p e.type he.type (D3h hs);rw[hs]at hst;by_cases hl:(Bh c.p e.type).length=e.kids.length;rotate_left
   .rw[A9 (.inr hl)]at E;subst E;have a7:¬((Bh c.p e.type).length:Int)=(e.kids.length:Int):=by omega
    refine sK λK2 u2=>?_
    (refine sG Bx [] 15 [] λK z=>?_;refine ev ?_;refine cc hst ?_;refine⟨_,.inl ⟨_,rfl,a2,rfl⟩,?_⟩;(try refine As a7 ?_);apply z;clear z K)
    refine tI ?_;refine sC I Bx ?_;exact aR
   rw[A6 (by rw[hs];simp[hl])]at E;have a7:((Bh c.p e.type).length:Int)=(e.kids.length:Int):=by omega
   have ab:=E3c c e.kids ae (Bh c.p e.type) hl (A9p O.p he.type) [] [] (by simp) hF;have ag:((Bh c.p e.type).map λf=>f.type.subst [] [])=(Bh c.p e.type).map (·.type):=J7 λf _=>A7i f.type;rw[ag]at ab;subst E;generalize L9 c ((Bh c.p e.type).map (·.type)) e.kids (e.kids.map (Di c))=r at*;refine sK λK2 u2=>?_
   (refine sG Bx [] 15 [] λK z=>?_;refine ev ?_;refine cc hst ?_;refine⟨_,.inl ⟨_,rfl,a2,rfl⟩,?_⟩;(try refine As a7 ?_);apply z;clear z K)
   refine kI u2 ?_;clear u2 K2
   (refine sG Bx [] 11 [] λK z=>?_;refine ev ?_;refine cc a2 ?_;refine cc ab ?_;apply z;clear z K)
   exact aR
 rw[A6 k3]at E;refine Ai k3 Bx λJ u1=>?_;refine kI u1 ?_;clear u1 J;by_cases k2:e.kind≠2/\e.kind≠4/\e.kind≠5
 .rw[A9 k2]at E;subst E;obtain⟨n2,n4,n5⟩:=k2;refine kR3 n2 n4 n5 Bx λJ u1=>?_;refine tI ?_;refine sC I Bx ?_;exact aR
 rw[A6 k2]at E;have kk:e.kind=2\/e.kind=4\/e.kind=5:=by omega
 have ad:e.kids=[]\/∃v vs,e.kids=v::vs:=by
  cases e.kids with
  |nil=>exact .inl rfl
  |cons v vs=>exact .inr ⟨v,vs,rfl⟩
 rcases ad with V|⟨v,vs,V⟩
 .rw[V]at E;simp only[Hy]at E;subst E;have a0:(e.kids.length:Int)=0:=by rw[V];rfl
  rcases kk with k|k|k
  .have e2:=Bo k;refine sK λJ u1=>?_
   (refine sQ Bx λK z=>?_;simp -implicitDefEqProofs only[EV,Nat.reduceEqDiff,reduceCtorEq,J3,A2q,Iu,Mr,e2,a0];apply z;clear z K)
   refine tI ?_;refine sC I Bx ?_;exact aR
  .have n2:¬e.kind=2:=by omega
   have e4:=Bo k;refine sK λJ u1=>?_
   (refine sQ Bx λK z=>?_;simp -implicitDefEqProofs only[EV,Nat.reduceEqDiff,reduceCtorEq,J3,A2q,Iu,Mr,n2,e4,a0];apply z;clear z K)
   refine tI ?_;refine sC I Bx ?_;exact aR
  .have n2:¬e.kind=2:=by omega
   have n4:¬e.kind=4:=by omega
   have e5:=Bo k;refine sK λJ u1=>?_
   (refine sQ Bx λK z=>?_;simp -implicitDefEqProofs only[EV,Nat.reduceEqDiff,reduceCtorEq,J3,A2q,Iu,Mr,n2,n4,e5,a0];apply z;clear z K)
   refine tI ?_;refine sC I Bx ?_;exact aR
 .have a0:¬(e.kids.length:Int)=0:=by rw[V];simp only[C6];omega
  have h0:e.kids[0]?=some v:=by rw[V];rfl
  have a8:v∈e.kids:=by rw[V];simp
  have hT:=ih v a8 (he.kids.2 v a8);have a3:=B4h O v (he.kids.2 v a8);have M:=A8h c.p O.p c.env O.el O.env e.type he.type;have Z:=G1y c O e he (Di c v).1 a3 (by rw[V];simp) λk hk w hw=>hF k (List.mem_of_mem_tail hk) w hw;have af:e.kids.tail=vs:=by rw[V];rfl
  rw[af]at Z;rw[V]at E;clear V;simp only[Ck]at E;generalize Di c v=z at*;obtain⟨x,⟨q,b,lg⟩⟩:=z;simp only at E a3 Z;have a4:=λf:Param=>D9i f.type ⟨q,b,lg⟩;rcases kk with k|k|k
  .have e2:=Bo k;refine sK λJ u1=>?_
   (refine sQ Bx λK z=>?_;simp -implicitDefEqProofs only[EV,Nat.reduceEqDiff,reduceCtorEq,J3,A2q,Iu,Mr,e2,a0];apply z;clear z K)
   refine kI u1 ?_;clear u1 J
   (refine sG Bx [] 12 [⟨[],[],[9,10],[9,10]⟩,⟨[],[],[9,10],[9,10]⟩,⟨[],[],[9,10],[9,10]⟩,⟨[],[],[9,10],[9,10]⟩,⟨[],[],[9,10],[9,10]⟩,⟨[],[],[9,10],[9,10]⟩,⟨[],[],[9,10],[9,10]⟩,⟨[],[],[9,10],[9,10]⟩,⟨[],[],[9,10],[9,10]⟩,⟨[9],[9],[10],[10]⟩,⟨[10],[10],[9],[9]⟩,⟨[9],[],[],[]⟩] λK z=>?_;refine ev ?_;refine cj (Dn h0) ?_;refine cc hT ?_;apply z;clear z K)
   (refine A0.zz 9 rfl rfl ?_;refine A0.zz 10 rfl rfl (wk [(2,.Ah (G6 c) 0),(3,.Ah (Bu e) 0),(4,.box 4 0),(5,.box 5 0),(9,.Ah (Be x) 0),(10,.Ah [.int .i64 q,.bool b,.bool lg] 0)] [(4,H9),(5,Iz)] ?_))
   cases b with
   |true =>
    rw[A9 rfl]at E;subst E;refine kR Bx λJ u1=>?_;refine tI ?_
    (refine sG Bx [] 3 [⟨[],[],[],[]⟩,⟨[],[],[4],[]⟩,⟨[4],[],[],[]⟩] λK z=>?_;refine ev ?_;apply z;clear z K)
    exact aR
   |false =>
    rw[A6 (by simp),A9 k]at E;rw[E]at Z;obtain⟨rt,rr⟩:=R;refine kR Bx λJ u1=>?_;refine kI u1 ?_;clear u1 J;refine sK λJ u1=>?_
    (refine sQ Bx λK z=>?_;simp -implicitDefEqProofs only[EV,Nat.reduceEqDiff,reduceCtorEq,J3,Iu,G6,e2];apply z;clear z K)
    refine tI ?_;refine sC Z Bx ?_;exact aR
  .have n2:¬e.kind=2:=by omega
   have e4:=Bo k;refine sK λJ u1=>?_
   (refine sQ Bx λK z=>?_;simp -implicitDefEqProofs only[EV,Nat.reduceEqDiff,reduceCtorEq,J3,A2q,Iu,Mr,n2,e4,a0];apply z;clear z K)
   refine kI u1 ?_;clear u1 J
   (refine sG Bx [] 12 [⟨[],[],[9,10],[9,10]⟩,⟨[],[],[9,10],[9,10]⟩,⟨[],[],[9,10],[9,10]⟩,⟨[],[],[9,10],[9,10]⟩,⟨[],[],[9,10],[9,10]⟩,⟨[],[],[9,10],[9,10]⟩,⟨[],[],[9,10],[9,10]⟩,⟨[],[],[9,10],[9,10]⟩,⟨[],[],[9,10],[9,10]⟩,⟨[9],[9],[10],[10]⟩,⟨[10],[10],[9],[9]⟩,⟨[9],[],[],[]⟩] λK z=>?_;refine ev ?_;refine cj (Dn h0) ?_;refine cc hT ?_;apply z;clear z K)
   (refine A0.zz 9 rfl rfl ?_;refine A0.zz 10 rfl rfl (wk [(2,.Ah (G6 c) 0),(3,.Ah (Bu e) 0),(4,.box 4 0),(5,.box 5 0),(9,.Ah (Be x) 0),(10,.Ah [.int .i64 q,.bool b,.bool lg] 0)] [(4,H9),(5,Iz)] ?_))
   cases b with
   |true =>
    rw[A9 rfl]at E;subst E;refine kR Bx λJ u1=>?_;refine tI ?_
    (refine sG Bx [] 3 [⟨[],[],[],[]⟩,⟨[],[],[4],[]⟩,⟨[4],[],[],[]⟩] λK z=>?_;refine ev ?_;apply z;clear z K)
    exact aR
   |false =>
    rw[A6 (by simp),A6 n2,A9 k]at E;refine kR Bx λJ u1=>?_;refine kI u1 ?_;clear u1 J;refine sK λJ u1=>?_
    (refine sQ Bx λK z=>?_;simp -implicitDefEqProofs only[EV,Nat.reduceEqDiff,reduceCtorEq,J3,Iu,G6,n2];apply z;clear z K)
    refine kI u1 ?_;clear u1 J;refine Ai e4 Bx λJ u1=>?_;refine tI ?_;have hst:=D4y c O x;rcases Fb (Hk c x)with hs|hs
    rotate_left
    .obtain rfl:R=L4 e.pos:=by rw[<-E];unfold A1a;rw[A9 hs]
     rw[hs]at hst;refine kC hst Bx λK2 u2=>?_;refine tI ?_;refine sC I Bx ?_;exact aR
    have a2:=C0f c.p O.p x a3 (D3h hs);have ak:=B1z O.p x;have ac:=@G1v c e x ⟨q,false,lg⟩ hs;have Pj:∀(j:Nat) (f:Param),G7 (Bh c.p x) e.name=j->(Bh c.p x)[j]?=some f->A1a c e x ⟨q,false,lg⟩=T1 (f.type,⟨q,false,lg⟩):=λj f h1 h2=>by unfold A1a;rw[A6 (by rw[hs];simp),h1,Hs,h2];simp only;rw[A6 (by omega)]
    rw[hs]at hst;generalize Bh c.p x=L at*;refine kC hst Bx λK2 u2=>?_;refine kI u2 ?_;clear u2 K2
    (refine sV Bx λK z=>?_;refine⟨_,.inl ⟨_,rfl,a2,rfl⟩,?_⟩;apply z;clear z K)
    refine kR Bx λK2 u2=>?_;refine A0.bb (A0.ii L (X:=Unit) (λj _=>[(2,.Ah (G6 c) 0),(3,.Ah (Bu e) 0),(4,.box 4 0),(5,.box 5 0),(10,.Ah [.int .i64 q,.bool false,.bool lg] 0),(11,.d (.slice (B9 L))),(12,A8 j)]) (λ_ _=>[(4,H9),(5,Iz)])
     (λj _=>∀y,y∈L.take j->(λf:Param=>decide (f.name=e.name)) y=false) () (by simp) (by simp[sle,Ax,Ag,G6,Bu]) sB ?_ ?_)
    rotate_left
    .intro j _ d hd aa dp tk a' hI;refine sK λK3 u3=>?_
     (refine sQ Bx λK z=>?_;simp -implicitDefEqProofs only[EV,Nat.reduceEqDiff,reduceCtorEq,Vi,G6,a'];apply z;clear z K)
     refine gI u3 ?_;clear u3 K3;refine sK λK3 u3=>A0.bb ?_;by_cases hn:d.name=e.name
     .have a6:G7 L e.name=j:=Tt hd (by simp[hn]) hI;have a4:=a4 d;rw[<-Pj j d a6 hd,E]at a4;obtain⟨rt,rr⟩:=R;have dn:=Bo hn
      (refine sG Bx [] 7 [] λK z=>?_;refine ev ?_;refine⟨by omega,_,E9 hd,rfl,?_⟩;(try refine As dn ?_);apply z;clear z K)
      refine A0.tt rfl ?_
      (refine sG Bx [] 9 [] λK z=>?_;refine ev ?_;refine ci (E9 hd) ?_;refine cc a4 ?_;apply z;clear z K)
      exact aR
     ·(refine sG Bx [] 7 [] λK z=>?_;refine ev ?_;refine⟨by omega,_,E9 hd,rfl,?_⟩;(try refine As hn ?_);apply z;clear z K)
      refine A0.ff rfl (A0.kk (u3 _ _ ?_));clear u3 K3
      (refine lV Bx λK z=>?_;refine⟨by first| (unfold Az;omega)| (simp only[Az,sm]at*;omega),?_⟩;apply z;clear z K;try simp only[A4,])
      refine⟨(),?_,(by simp[sle,Ax,Ag,G6,Bu]),sB⟩;intro y hy;rw[tk,D2]at hy;rcases hy with hy|hy
      .exact hI y hy
      .simp only[Ps]at hy;subst hy;exact Ce hn
    intro _ hI;rw[Dm]at hI;obtain rfl:R=L4 e.pos:=by rw[<-E];exact ac (Tn hI)
    refine sK λK3 u3=>?_
    (refine sQ Bx λK z=>?_;simp -implicitDefEqProofs only[EV,Nat.reduceEqDiff,reduceCtorEq,Vi,G6,B3];apply z;clear z K)
    refine A0.ss rfl ?_;simp only[A4,Ab,Ae];refine u2 _ _<|sC I Bx ?_;exact aR
  .have n2:¬e.kind=2:=by omega
   have n4:¬e.kind=4:=by omega
   have e5:=Bo k;refine sK λJ u1=>?_
   (refine sQ Bx λK z=>?_;simp -implicitDefEqProofs only[EV,Nat.reduceEqDiff,reduceCtorEq,J3,A2q,Iu,Mr,n2,n4,e5,a0];apply z;clear z K)
   refine kI u1 ?_;clear u1 J
   (refine sG Bx [] 12 [⟨[],[],[9,10],[9,10]⟩,⟨[],[],[9,10],[9,10]⟩,⟨[],[],[9,10],[9,10]⟩,⟨[],[],[9,10],[9,10]⟩,⟨[],[],[9,10],[9,10]⟩,⟨[],[],[9,10],[9,10]⟩,⟨[],[],[9,10],[9,10]⟩,⟨[],[],[9,10],[9,10]⟩,⟨[],[],[9,10],[9,10]⟩,⟨[9],[9],[10],[10]⟩,⟨[10],[10],[9],[9]⟩,⟨[9],[],[],[]⟩] λK z=>?_;refine ev ?_;refine cj (Dn h0) ?_;refine cc hT ?_;apply z;clear z K)
   (refine A0.zz 9 rfl rfl ?_;refine A0.zz 10 rfl rfl (wk [(2,.Ah (G6 c) 0),(3,.Ah (Bu e) 0),(4,.box 4 0),(5,.box 5 0),(9,.Ah (Be x) 0),(10,.Ah [.int .i64 q,.bool b,.bool lg] 0)] [(4,H9),(5,Iz)] ?_))
   cases b with
   |true =>
    rw[A9 rfl]at E;subst E;refine kR Bx λJ u1=>?_;refine tI ?_
    (refine sG Bx [] 3 [⟨[],[],[],[]⟩,⟨[],[],[4],[]⟩,⟨[4],[],[],[]⟩] λK z=>?_;refine ev ?_;apply z;clear z K)
    exact aR
   |false =>
    rw[A6 (by simp),A6 n2,A6 n4]at E;unfold B6t at E;refine kR Bx λJ u1=>?_;refine kI u1 ?_;clear u1 J;refine sK λJ u1=>?_
    (refine sQ Bx λK z=>?_;simp -implicitDefEqProofs only[EV,Nat.reduceEqDiff,reduceCtorEq,J3,Iu,G6,n2];apply z;clear z K)
    refine kI u1 ?_;clear u1 J;refine Ai n4 Bx λJ u1=>?_;refine kI u1 ?_;clear u1 J;cases ho:Bt c.p c.env e.type with
    |some n =>rw[ho]at M E;simp only[U8]at M E;have a1:=A9k n;subst E;refine sC M Bx ?_;refine kR Bx λJ u1=>?_;refine tI ?_;refine sC a1 Bx ?_;exact aR
    |none =>
     rw[ho]at M E;simp only[U8]at M E;refine sC M Bx ?_;refine kR Bx λJ u1=>?_;refine kI u1 ?_;clear u1 J;have ai:=A8y c.env x O.el;have U:=E0k c O x;have W:=E0k c O e.type;refine sK λJ u1=>?_;rcases Fb c.strict with hst|hst
     rotate_left
     .rw[A6 (λhh=>by rw[hst]at hh;cases hh.1)]at E;subst E;refine Aq hst Bx ?_;refine A0.ff rfl (A0.kk (u1 _ _ ?_))
      (refine sG Bx [] 4 [⟨[],[],[],[]⟩,⟨[],[],[],[]⟩,⟨[],[],[4],[]⟩,⟨[4],[],[],[]⟩] λK z=>?_;refine ev ?_;apply z;clear z K)
      exact aR
     .refine sR Bx ?_;refine A0.cond rfl (λ_=>?_) (λhf=>absurd (hst.symm.trans hf) (by decide));refine sR Bx ?_;refine sC ai Bx<|sK λK2 u2=>?_;by_cases h0:0<=Ez c.env x
      .obtain⟨f,hf,_⟩:=A6b (env:=c.env) (t:=x) (by omega);have a5:=F6x h0 hf;have hi:=A8r c.p O.p c.env O.el O.env e.type f.bound he.type (O.env f (Br hf)).bound;have a9:Dd c.p c.env e.type (Zs c x)=Dd c.p c.env e.type f.bound:=by rw[a5]
       rw[<-a9]at hi;refine Aq h0 Bx ?_;refine A0.tt rfl ?_
       (refine lV Bx λK z=>?_;refine⟨h0,_,F5 hf,rfl,?_⟩;(try refine ev ?_);apply z;clear z K;try simp only[A4,])
       refine u2 _ _ ?_;clear u2 K2;rcases Fb (A4n c x)with ha|ha
       rotate_left
       .rw[A9 ⟨hst,by unfold T0;rw[ha];rfl⟩]at E;subst E;rw[ha]at U;refine sC U Bx ?_;refine tI ?_;refine sC I Bx ?_;exact aR
       rw[ha]at U;rcases Fb (A4n c e.type)with hb|hb
       .rw[A6 (λhh=>by have:=hh.2;unfold T0 at this;rw[ha,hb]at this;cases this)]at E;subst E;rw[hb]at W
        (refine sV Bx λK z=>?_;refine cc U ?_;refine cc W ?_;apply z;clear z K)
        refine A0.ff rfl (A0.kk (u1 _ _ ?_))
        (refine sG Bx [] 4 [⟨[],[],[],[]⟩,⟨[],[],[],[]⟩,⟨[],[],[4],[]⟩,⟨[4],[],[],[]⟩] λK z=>?_;refine ev ?_;apply z;clear z K)
        exact aR
       rw[hb]at W;rcases Fb (Dd c.p c.env e.type (Zs c x))with hm|hm
       .rw[A6 (λhh=>by have:=hh.2;unfold T0 at this;rw[ha,hb,hm]at this;cases this)]at E;subst E;rw[hm]at hi
        (refine sV Bx λK z=>?_;refine cc U ?_;refine cc W ?_;refine cc hi ?_;apply z;clear z K)
        refine A0.ff rfl (A0.kk (u1 _ _ ?_))
        (refine sG Bx [] 4 [⟨[],[],[],[]⟩,⟨[],[],[],[]⟩,⟨[],[],[4],[]⟩,⟨[4],[],[],[]⟩] λK z=>?_;refine ev ?_;apply z;clear z K)
        exact aR
       .rw[A9 ⟨hst,by unfold T0;rw[ha,hb,hm];rfl⟩]at E;subst E;rw[hm]at hi
        (refine sV Bx λK z=>?_;refine cc U ?_;refine cc W ?_;refine cc hi ?_;apply z;clear z K)
        refine tI ?_;refine sC I Bx ?_;exact aR
      .have a5:=F8i h0;have hi:=A8r c.p O.p c.env O.el O.env e.type x he.type a3;have a9:Dd c.p c.env e.type (Zs c x)=Dd c.p c.env e.type x:=by rw[a5]
       rw[<-a9]at hi;refine Aq h0 Bx ?_;refine A0.ff rfl (A0.kk (u2 _ _ ?_));clear u2 K2;rcases Fb (A4n c x)with ha|ha
       rotate_left
       .rw[A9 ⟨hst,by unfold T0;rw[ha];rfl⟩]at E;subst E;rw[ha]at U;refine sC U Bx ?_;refine tI ?_;refine sC I Bx ?_;exact aR
       rw[ha]at U;rcases Fb (A4n c e.type)with hb|hb
       .rw[A6 (λhh=>by have:=hh.2;unfold T0 at this;rw[ha,hb]at this;cases this)]at E;subst E;rw[hb]at W
        (refine sV Bx λK z=>?_;refine cc U ?_;refine cc W ?_;apply z;clear z K)
        refine A0.ff rfl (A0.kk (u1 _ _ ?_))
        (refine sG Bx [] 4 [⟨[],[],[],[]⟩,⟨[],[],[],[]⟩,⟨[],[],[4],[]⟩,⟨[4],[],[],[]⟩] λK z=>?_;refine ev ?_;apply z;clear z K)
        exact aR
       rw[hb]at W;rcases Fb (Dd c.p c.env e.type (Zs c x))with hm|hm
       .rw[A6 (λhh=>by have:=hh.2;unfold T0 at this;rw[ha,hb,hm]at this;cases this)]at E;subst E;rw[hm]at hi
        (refine sV Bx λK z=>?_;refine cc U ?_;refine cc W ?_;refine cc hi ?_;apply z;clear z K)
        refine A0.ff rfl (A0.kk (u1 _ _ ?_))
        (refine sG Bx [] 4 [⟨[],[],[],[]⟩,⟨[],[],[],[]⟩,⟨[],[],[4],[]⟩,⟨[4],[],[],[]⟩] λK z=>?_;refine ev ?_;apply z;clear z K)
        exact aR
       .rw[A9 ⟨hst,by unfold T0;rw[ha,hb,hm];rfl⟩]at E;subst E;rw[hm]at hi
        (refine sV Bx λK z=>?_;refine cc U ?_;refine cc W ?_;refine cc hi ?_;apply z;clear z K)
        refine tI ?_;refine sC I Bx ?_;exact aR
def A6p{p:Prog}(h:p.Sm)(st:Bool){d:Decl}(E:d.Sm)(J:d.Two)(I:d.sig.params.length+1<=sm):(H3 p st d).Sm:=by
 refine⟨h,?_,?_,?_,?_⟩
 .show(Ga p d++d.sig.A1).length<=sm;have:=C2d p d;have:=J.sig;rw[Bz];omega
 .intro f hf;rcases D2.1 hf with hf|hf
  .exact C4z h E f hf
  .exact E.sig.A1.2 f hf
 .show(⟨d.recv,B0r d,0⟩::d.sig.params:List Param).length<=sm;rw[C6];exact I
 .intro f hf;rcases Aw.1 hf with rfl|hf
  .refine⟨E.recv,.mk _ _ _ E.name (by simp only[E5,Bn];exact E.vars.1) (E0s E)⟩
  .exact E.sig.params.2 f hf
abbrev z49:Ap:=.cells [.d .nil,.d (.int .i64 0),.d (.str []),.d (.str []),.d .nil,.d (.int .i64 0),.d .nil,.d .nil,.d (.int .i64 0),.d (.bool false),.d .nil,.d .nil]
abbrev X7:List Nat:=[0,1,2,3,5,6,7,8,9,17,36,46,900]
def D8z(p:Prog)(h:p.Sm)(st:Bool)(d:Decl)(M:d.Sm)(W:d.Two)(Z:d.sig.params.length+1<=sm):Ac prog 121 [D7 p,Ay st,Ma d] (W9 (H3 p st d)):=by
 have I:=E3k p h d M;have J:=C2d p d;have V:=M.vars.1;have a0:=W.sig;have e1:Ar (H3 p st d).env=Ar (Ga p d)++Ar d.sig.A1:=by simp[H3,Ar]
 unfold W9;rw[e1];show Ac prog 121 [D7 p,Ay st,Ma d] (.agg [.d (.slice (Ix p.decls)),.d (.int .i64 p.main.kind),.d (.str p.main.name),.d (.str p.main.type.name),.d (.slice (Au p.main.type.args)),.d (.int .i64 p.main.type.pos),.d (.slice (Au p.main.targs)),.d (.slice (Ew p.main.kids)),.d (.int .i64 p.main.pos),.d (.bool st),.d (.slice (Ar (Ga p d)++Ar d.sig.A1)),.d (.slice ([[.str d.recv,.str d.name,.slice (Au (E5 d.vars)),.int .i64 0,.int .i64 0]]++B9 d.sig.params))]);have O:(Ar (Ga p d)).length<=d.vars.length:=by simpa [Ar]using J
 generalize Ar (Ga p d)=ER at*;refine cB func121 ?_;refine sR X7 ?_
 (refine A0.zz 3 rfl rfl ?_;refine A0.zz 5 rfl rfl (wk [(1,Ay st),(3,.Ah (An p) 0),(5,.Ah (Bb d) 0),(6,.box 6 0)] [(6,z49)] ?_))
 refine sR X7 ?_;refine A0.U7 900 3 7 1 rfl rfl (by decide)<|kR X7 λK1 u1=>?_;refine A0.bb (A0.ii d.vars (X:=Unit) (λj _=>[(1,Ay st),(3,.Ah (An p) 0),(5,.Ah (Bb d) 0),(6,.box 6 0),(7,.box 7 0),(8,A8 j)]) (λj _=>[(6,z49),(7,.cells [.d (.str d.name),.acc 900,.d (.int .i64 0)]),(900,.rows 3 (Au (E5 (d.vars.take j))))])
  (λ_ _=>True) () trivial (by simp[sle,Ax,Ag,Bb,An]) (by simp[ble,A7,Cz,E5]) ?_ ?_)
 rotate_left
 .intro j _ s hs U dp tk L _;rw[tk];refine Ai L X7 λE u2=>?_;refine gI u2 ?_;clear u2 E;refine sK λE u2=>A0.bb ?_
  (refine lG X7 [] 9 [] λK z=>?_;refine ev ?_;refine ci (Ku hs) ?_;refine⟨by simp,by simp only[E5,Bn,Dx];unfold lim sm at*;omega,?_⟩;(try refine ev ?_);apply z;clear z K;try simp only[A4,Ab])
  refine u2 _ _ ?_;clear u2 E;refine lT X7 ?_;exact⟨(),trivial,(by simp[sle,Ax,Ag,Bb,An]),by simp[ble,A7,Cz,E5,Be,Ty.name,Ty.args,Ty.pos]⟩
 intro _ _;rw[Dm];refine Ai B3 X7 λE u2=>?_;refine A0.ss rfl ?_;simp only[A4,Ab,Ae];refine u1 _ _ ?_;clear u2 E u1 K1
 (refine A0.Jq 900 rfl (wk [(1,Ay st),(3,.Ah (An p) 0),(5,.Ah (Bb d) 0),(6,.box 6 0),(7,.box 7 0)] [(6,z49),(7,.cells [.d (.str d.name),.d (.slice (Au (E5 d.vars))),.d (.int .i64 0)])] ?_))
 refine sR X7 ?_
 (refine sG X7 [36] 6 [⟨[],[],[],[]⟩,⟨[],[],[],[]⟩,⟨[36],[36],[],[]⟩,⟨[],[],[36],[36]⟩,⟨[],[],[36],[36]⟩,⟨[],[],[36],[36]⟩] λK z=>?_;refine ev ?_;refine⟨_,_,_,_,_,rfl,I,?_⟩;(try refine ev ?_);refine⟨C2b _,by unfold lim sm at*;omega,?_⟩;(try refine ev ?_);apply z;clear z K)
 (refine A0.Ef X7 [46] (by decide +kernel) λK z=>?_;refine ev ?_;refine⟨D7j _,by unfold lim sm at*;omega,?_⟩;(try refine ev ?_);apply z;clear z K)
 (refine A0.Jq 36 rfl ?_;refine A0.Jq 46 rfl (wk [(6,.box 6 0),(9,.box 9 0)] [(6,z49),(9,.cells [.d (.slice (Ix p.decls)),.d (.int .i64 p.main.kind),.d (.str p.main.name),.d (.str p.main.type.name),.d (.slice (Au p.main.type.args)),.d (.int .i64 p.main.type.pos),.d (.slice (Au p.main.targs)),.d (.slice (Ew p.main.kids)),.d (.int .i64 p.main.pos),.d (.bool st),.d (.slice (ER++Ar d.sig.A1)),.d (.slice ([[.str d.recv,.str d.name,.slice (Au (E5 d.vars)),.int .i64 0,.int .i64 0]]++B9 d.sig.params))])] ?_))
 refine sR X7 ?_;exact aR
abbrev A6v:List Nat:=[0,1,2,3,6,7,25]
def F3d(p:Prog)(h:p.Sm)(st:Bool)(i:Nat)(d:Decl)(J:p.decls[i]?=some d)(W:d.Two)(L:d.sig.params.length+1<=sm):Ac prog 69 [D7 p,Ay st,A8 i] (Lr (A5h p st d)):=by
 have a0:=(B5.1 J).1;have V:¬(i:Int)<0:=by omega
 have U:¬(i:Int) >= (p.decls.length:Int):=by omega
 have E:=h.decls.2 d (Br J);have I:=A6p h st E W L;have M:=D8z p h st d E W L;have O:=D8g (H3 p st d) I d.body (C6i _ I d.body E.body) (B4h I d.body E.body) d.sig.result E.sig.result;unfold A5h;generalize V4 (H3 p st d) d.sig.result d.body (Di (H3 p st d) d.body)=r at*;generalize H3 p st d=c at*;by_cases k3:d.kind=3
 .rw[A9 k3];have d3:=Bo k3;refine cB func69 ?_;refine sR A6v<|sK λZ u1=>?_
  (refine sQ A6v λK z=>?_;refine Gv V U ?_;refine⟨by omega,_,Ev J,rfl,?_⟩;(try simp -implicitDefEqProofs only[EV,Nat.reduceEqDiff,reduceCtorEq,Mr,d3]);apply z;clear z K)
  refine kI u1 ?_;clear u1 Z
  (refine sV A6v λK z=>?_;refine ci (Ev J) ?_;apply z;clear z K)
  (refine sG A6v [] 9 [] λK z=>?_;refine ev ?_;refine cc M ?_;refine cc O ?_;apply z;clear z K)
  exact aR
 .rw[A6 k3];refine cB func69 ?_;refine sR A6v<|sK λZ u1=>?_
  (refine sQ A6v λK z=>?_;refine Gv V U ?_;refine⟨by omega,_,Ev J,rfl,?_⟩;(try refine As k3 ?_);apply z;clear z K)
  refine tI ?_;refine sR A6v ?_;exact aR
structure Prog.Fit(p:Prog):Prop where
 sm:p.Sm
 len:p.decls.length<=100000
 two:∀d,d∈p.decls->d.Two
 par:∀d,d∈p.decls->d.sig.params.length+1<=Go.Abs.sm
def A5.C7a(s:A5)(n:Int)(I:0<=n)(h:s.count n<=2000):s.params.length<=2000:=by unfold A5.count at h;obtain⟨O,L⟩:=A6r s.A1 (n+((s.name.length / 50:Nat):Int));obtain⟨M,E⟩:=A7p s.params (C8 s.A1 (n+((s.name.length / 50:Nat):Int)));have J:=Ty.F9 s.result (D6 s.params (C8 s.A1 (n+((s.name.length / 50:Nat):Int))));have:=(E (by omega) (by omega)).1;omega
def Decl.C7a(d:Decl)(n:Int)(E:0<=n)(h:d.count n<=2000):d.sig.params.length<=2000:=by
 unfold Decl.count at h;generalize I:n+1+((d.name.length / 50:Nat):Int)+((d.recv.length / 50:Nat):Int)=m at h;obtain⟨Z,M⟩:=A6r d.A1 m;obtain⟨W,V⟩:=A7p d.fields (C8 d.A1 m);obtain⟨L,O⟩:=E0d d.sigs (D6 d.fields (C8 d.A1 m));obtain⟨e1,U⟩:=A2e d.vars (Ec d.sigs (D6 d.fields (C8 d.A1 m)));generalize hz:Jc d.vars (Ec d.sigs (D6 d.fields (C8 d.A1 m)))=z at*;unfold Decl.Ta at h;have J:=Ex.F9 d.body (d.sig.count z);split at h
 .exact A5.C7a d.sig z (by omega) (by omega)
 .omega
def F9s:P2 Im (λd=>d.sig.params.length<=2000):=N8 Im Decl.count (λd=>d.sig.params.length<=2000) (λ_=>rfl) (λ_ _ _=>rfl) (λx k=>(Decl.Gi x k).1) (λx k E h=>Decl.C7a x k E h)
def Prog.V8(p:Prog)(h:p.count<=600):p.Fit:=by have I:=Prog.Q5 p h;have hs:=Prog.Gi p h;refine⟨hs.1,by have:=hs.2;omega,λd E=>(I.decls d E).two,λd E=>?_⟩;unfold Prog.count at h;have L:=Ex.F9 p.main 0;obtain⟨M,J⟩:=F9s p.decls (p.main.count 0);have:=(J (by omega) (by omega)).2 d E;unfold Go.Abs.sm;omega
abbrev Qk:List Nat:=[0,1,2,4,5,6,8,13,21,27]
def G7f(p:Prog)(h:p.Fit)(st:Bool):Ac prog 26 [D7 p,Ay st] (Lr (A8o p st)):=by
 have a0:=h.sm.decls.1;have V:(⟨p,st,[],[]⟩:C3).Sm:=⟨h.sm,by simp,by simp,by simp,by simp⟩;have U:=C6i ⟨p,st,[],[]⟩ V p.main h.sm.main;generalize hR:A8o p st=R;unfold A8o at hR;refine cB func26 ?_;refine sR Qk ?_
 (refine A0.zz 2 rfl rfl (wk [(1,Ay st),(2,.Ah (An p) 0),(4,.box 4 0)] [(4,Iz)] ?_))
 refine kR Qk λK1 u1=>?_;refine A0.bb (A0.ii p.decls (X:=Unit) (λj _=>[(1,Ay st),(2,.Ah (An p) 0),(4,.box 4 0),(5,A8 j)]) (λ_ _=>[(4,Iz)])
  (λj _=>A1m p st (p.decls.drop j) j=R) () hR (by simp[sle,Ax,Ag,An]) sB ?_ ?_)
 rotate_left
 .intro j _ d hd J dp tk Z E;have I:=G2b p h.sm h.len j d hd (h.two d J);have W:=F3d p h.sm st j d hd (h.two d J) (h.par d J);rw[dp,A1m]at E;refine Ai Z Qk λL u2=>?_;refine gI u2 ?_;clear u2 L;refine sK λL u2=>A0.bb ?_;cases ho:Zj p j d with
  |some q =>rw[ho]at I E;simp only[Lr,Ib,Mm]at I E;refine sC I Qk ?_;refine kR Qk λO M=>?_;refine A0.ff rfl (A0.kk (M _ _ ?_));clear M O;refine sR Qk ?_;refine A0.tt rfl<|sR Qk ?_;rw[<-E];exact aR
  |none =>
   rw[ho]at I E;simp only[Lr,Ib,Pm]at I E;generalize A5h p st d=r at*;obtain⟨q,b,l⟩:=r;refine sC I Qk ?_;refine kR Qk λO M=>?_;refine A0.tt rfl ?_
   (refine lV Qk λK z=>?_;refine cc W ?_;apply z;clear z K;try simp only[A4,])
   refine M _ _ ?_;clear M O;refine sR Qk ?_;cases b with
   |true =>rw[A9 rfl]at E;refine A0.tt rfl<|sR Qk ?_;rw[<-E];exact aR
   |false =>rw[A6 (by simp)]at E;refine A0.ff rfl (A0.kk (u2 _ _ ?_));clear u2 L;refine lT Qk ?_;exact⟨(),E,(by simp[sle,Ax,Ag,An]),sB⟩
 intro _ E;rw[De,A1m]at E;refine Ai B3 Qk λL u2=>?_;refine A0.ss rfl ?_;simp only[A4,Ab,Ae];refine u1 _ _ ?_;clear u2 L u1 K1;generalize Di ⟨p,st,[],[]⟩ p.main=z at*;obtain⟨x,r⟩:=z;simp only at E;subst E;refine sC U Qk ?_;refine sR Qk ?_;exact aR
end Go.Abs
