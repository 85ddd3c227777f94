/- castingsref06: sigTypes, Body, Types, bare, Plain; sizes of the lists of types -/
import Derived.Test.YtaneedhchnaniaaGreatDoorKU01
import Derived.Test.YtaneedhchnaniaaGreatDoorKS95
namespace Go.Abs
set_option maxHeartbeats 4000000
set_option linter.all false
open Go Go.Proofs Tryz
set_option maxRecDepth 100000
theorem Ty.D0s:∀(l:List Ty)(k:Int),Ty.C4 l k≤2000→k+(l.length:Int)≤Ty.C4 l k
 |[],k,_=>by simp [Ty.C4]
 |t::I,k,h=>by
  simp only [Ty.C4] at h ⊢;split at h
  ·rename_i E;rw [A8 E];have L:=Ty.D0s I _ h;have J:=Ty.F4 t k;simp only [Bg];omega
  ·omega
theorem E7k (e:Ex)(l:List Ex):Hx (e::l)=Vp e++Hx l:=rfl
theorem A6x (a b:List Ex):Hx (a++b)=Hx a++Hx b:=by simp [Hx]
theorem D0d (x:Ex):(Vp x).length≤x.targs.length+1:=by unfold Vp;rw [B3];split <;> simp
mutual
theorem Ex.D8w:∀(e:Ex)(k:Int),e.count k≤2000→k+((Bb e).length:Int)≤e.count k∧k+((Mx e).length:Int)≤e.count k
 |.mk E n t a ks p,k,h=>by simp only [Ex.count] at h ⊢;have V:=Ty.F4 t (k+((n.length / 50:Nat):Int));have J:=Ty.Jr a (t.count (k+((n.length / 50:Nat):Int)));have R:=Ex.Jr ks (Ty.C4 a (t.count (k+((n.length / 50:Nat):Int))));have g2:=Ty.D0s a (t.count (k+((n.length / 50:Nat):Int))) (by omega);obtain⟨W,Z⟩:=Ex.C9k ks (Ty.C4 a (t.count (k+((n.length / 50:Nat):Int)))) h;have O:=D0d (.mk E n t a ks p);rw [show (Ex.mk E n t a ks p).targs=a from rfl] at O;unfold Mx;rw [Bb,E7k];simp only [Bg,B3];omega
theorem Ex.C9k:∀(l:List Ex)(k:Int),Ex.C4 l k≤2000→k+((Cr l).length:Int)≤Ex.C4 l k∧k+((Hx (Cr l)).length:Int)≤Ex.C4 l k
 |[],k,_=>by simp [Ex.C4,Cr,Hx]
 |t::I,k,h=>by
  simp only [Ex.C4] at h ⊢;split at h
  ·rename_i U;rw [A8 U];have V:=Ex.Jr I (t.count k);obtain⟨J,R⟩:=Ex.C9k I (t.count k) h;obtain⟨h4,L⟩:=Ex.D8w t k (by omega);unfold Mx at L;rw [Cr,A6x];simp only [B3];omega
  ·omega
end
structure Ex.Le (e:Ex):Prop where
 list:(Bb e).length≤2000
 Co:(Mx e).length≤2000
theorem Ex.Ti (e:Ex)(k:Int)(E:0≤k)(h:e.count k≤2000):e.Le:=by have:=Ex.D8w e k h;exact⟨by omega,by omega⟩
structure A5.Le (s:A5):Prop where
 A1:s.A1.length≤2000
 params:s.params.length≤2000
structure Decl.Le (d:Decl):Prop where
 A1:d.A1.length≤2000
 fields:d.fields.length≤2000
 X3:d.sigs.length≤3000
 sigs:∀s,s∈d.sigs→s.Le
 sig:d.sig.Le
 body:d.body.Le
structure Prog.Le (p:Prog):Prop where
 Vd:p.decls.length≤200000
 decls:∀d,d∈p.decls→d.Le
 main:p.main.Le
theorem A5.Ti (s:A5)(n:Int)(O:0≤n)(h:s.count n≤2000):s.Le:=by unfold A5.count at h;obtain⟨R,E⟩:=A4v s.A1 (n+((s.name.length / 50:Nat):Int));obtain⟨J,I⟩:=A4q s.params (C7 s.A1 (n+((s.name.length / 50:Nat):Int)));have V:=Ty.F4 s.result (D5 s.params (C7 s.A1 (n+((s.name.length / 50:Nat):Int))));have U:=(E (by omega) (by omega)).1;have L:=(I (by omega) (by omega)).1;exact⟨by omega,by omega⟩
theorem D3p:N3 Eh A5.Le:=Ly Eh A5.count A5.Le (fun _=>rfl) (fun _ _ _=>rfl) (fun x k=>(A5.Gv x k).1) (fun x k E h=>A5.Ti x k E h)
theorem Decl.Ti (d:Decl)(n:Int)(V:0≤n)(h:d.count n≤2000):d.Le:=by
 unfold Decl.count at h;generalize W:n+1+((d.name.length / 50:Nat):Int)+((d.recv.length / 50:Nat):Int)=m at h;obtain⟨Z,I⟩:=A4v d.A1 m;obtain⟨O,J⟩:=A4q d.fields (C7 d.A1 m);obtain⟨c1,E⟩:=D3p d.sigs (D5 d.fields (C7 d.A1 m));obtain⟨R,U⟩:=A2t d.vars (Eh d.sigs (D5 d.fields (C7 d.A1 m)));generalize hz:Ii d.vars (Eh d.sigs (D5 d.fields (C7 d.A1 m)))=z at *;unfold Decl.Ry at h;obtain⟨f1,_⟩:=A5.Gv d.sig z;have g1:=Ex.F4 d.body (d.sig.count z);split at h
 ·have a3:=(I (by omega) (by omega)).1;have L:=(J (by omega) (by omega)).1;have c3:=(E (by omega) (by omega)).1;exact⟨by omega,by omega,by omega,(E (by omega) (by omega)).2,A5.Ti d.sig z (by omega) (by omega),Ex.Ti d.body (d.sig.count z) (by omega) h⟩
 ·omega
theorem E6r:N3 Ik Decl.Le:=Ly Ik Decl.count Decl.Le (fun _=>rfl) (fun _ _ _=>rfl) (fun x k=>(Decl.Gv x k).1) (fun x k E h=>Decl.Ti x k E h)
theorem Prog.Ti (p:Prog)(h:p.count≤600):p.Le:=by unfold Prog.count at h;have J:=Ex.F4 p.main 0;obtain⟨I,E⟩:=E6r p.decls (p.main.count 0);have:=(E (by omega) (by omega)).1;exact⟨by omega,(E (by omega) (by omega)).2,Ex.Ti p.main 0 (by omega) (by omega)⟩
theorem B6f {α β:Type} (f:α→List β)(c:Nat):∀l:List α,(∀x,x∈l→(f x).length≤c)→(l.flatMap f).length≤l.length*c
 |[],_=>by simp
 |a::l,h=>by rw [Ar4,B3,Bg,Nat.succ_mul];have:=B6f f c l fun x E=>h x (by simp [E]);have:=h a (by simp);omega
theorem A5u {s:A5} (h:s.Le):(M4 s).length≤4001:=by have:=h.A1;have:=h.params;simp only [M4,Fs,Gq,B3,B6,Bg,Ch];omega
theorem B6p {l:List A5} (E:l.length≤3000)(h:∀s,s∈l→s.Le):(Ko l).length≤12003000:=by have J:=B6f M4 4001 l fun s hs=>A5u (h s hs);have I:l.length*4001≤3000*4001:=H4 _ E;unfold Ko;omega
theorem E0s {l:List A5} (E:l.length≤3000)(h:∀s,s∈l→s.Le)(j:Nat):(Ko (l.take j)).length≤12003000 :=
 B6p (by rw [Cw];omega) fun s hs=>h s (Iq hs)
theorem F6w {d:Decl} (h:d.Le):(Sq d).length≤6001:=by
 unfold Sq;split
 ·rw [B3];have:=A5u h.sig;have:=h.body.Co;omega
 ·simp
theorem G3t {d:Decl} (h:d.Le):(A4i d).length≤13000000:=by have:=B6p h.X3 h.sigs;have:=F6w h;have:=h.A1;have:=h.fields;simp only [A4i,Fs,Gq,B3,B6];omega
theorem B7m {l:List Decl} (E:l.length≤200000)(h:∀s,s∈l→s.Le):(Mo l).length≤2600000000000:=by have J:=B6f A4i 13000000 l fun s hs=>G3t (h s hs);have I:l.length*13000000≤200000*13000000:=H4 _ E;unfold Mo;omega
theorem E1r {l:List Decl} (E:l.length≤200000)(h:∀s,s∈l→s.Le)(j:Nat):(Mo (l.take j)).length≤2600000000000 :=
 B7m (by rw [Cw];omega) fun s hs=>h s (Iq hs)
theorem B6v {p:Prog} (h:p.Le):(M9 p).length≤2600000002000:=by have:=B7m h.Vd h.decls;have:=h.main.Co;unfold M9;rw [B3];omega
abbrev T8:List Nat:=[0,1,2,3,4,5,10,26]
theorem C8j (s:A5)(hs:s.Le):Ac prog 52 [Cx s] (.d (.slice (Aq (M4 s)))):=by
 have Z:=hs.A1;have W:=hs.params;unfold M4;refine cB func52 ?_;refine sR T8 ?_;refine sR T8 ?_;refine A0.pp 3 3 3 rfl ?_;refine kR T8 fun U u1=>?_;refine A0.bb (A0.ii s.A1 (X:=Unit) (fun j _=>[(1,.box 1 0),(3,.acc 3),(4,A9 j)]) (fun j _=>[(1,.cells (Nd s)),(3,.rows 3 (Aq (Fs (s.A1.take j))))])
  (fun _ _=>True) () trivial sS (by simp [ble,A7,Fs,Cc]) ?_ ?_)
 rotate_left
 ·intro j _ u J L V R I _;have O:=(Ay.1 J).1;rw [R];refine Ai I T8 fun E u2=>?_;refine gI u2 ?_;clear u2 E;refine sK fun E u2=>?_;refine A0.bb ?_
  (refine lV T8 fun K z=>?_;refine ci (Ep J) ?_;refine⟨by simp,by (try simp only [Fs,B6,Cw]);unfold lim;omega,?_⟩;(try refine ev ?_);apply z;clear z K;try simp only [A4,Aa])
  refine u2 _ _ ?_;clear u2 E
  (refine lV T8 fun K z=>?_;refine cl ?_;apply z;clear z K;try simp only [A4,])
  exact⟨(),trivial,sS,by simp [ble,A7,Cc,Fs,Bh]⟩
 intro _ _;rw [Cs];refine Ai B4 T8 fun E u2=>?_;refine A0.ss rfl ?_;simp only [A4,Aa,Af];refine u1 _ _ ?_;clear u2 E u1 U;refine kR T8 fun U u1=>?_;refine A0.bb (A0.ii s.params (X:=Unit) (fun j _=>[(1,.box 1 0),(3,.acc 3),(5,A9 j)]) (fun j _=>[(1,.cells (Nd s)),(3,.rows 3 (Aq (Fs s.A1++Gq (s.params.take j))))])
  (fun _ _=>True) () trivial sS (by simp [ble,A7,Gq,Cc]) ?_ ?_)
 rotate_left
 ·intro j _ u J L V R I _;have O:=(Ay.1 J).1;rw [R];refine Ai I T8 fun E u2=>?_;refine gI u2 ?_;clear u2 E;refine sK fun E u2=>?_;refine A0.bb ?_
  (refine lV T8 fun K z=>?_;refine ci (E7 J) ?_;refine⟨by simp,by (try simp only [Fs,Gq,B3,B6,Cw]);unfold lim;omega,?_⟩;(try refine ev ?_);apply z;clear z K;try simp only [A4,Aa])
  refine u2 _ _ ?_;clear u2 E
  (refine lV T8 fun K z=>?_;refine cl ?_;apply z;clear z K;try simp only [A4,])
  exact⟨(),trivial,sS,by simp [ble,A7,Cc,Gq,Bh]⟩
 intro _ _;rw [Cs];refine Ai B4 T8 fun E u2=>?_;refine A0.ss rfl ?_;simp only [A4,Aa,Af];refine u1 _ _ ?_;clear u2 E u1 U;rw [B3m (Fs s.A1++Gq s.params),show Aq [s.result]=[Bh s.result] by simp [Cc]]
 (refine sV T8 fun K z=>?_;refine⟨by simp,by (try simp only [Fs,Gq,B3,B6]);unfold lim;omega,?_⟩;(try refine ev ?_);apply z;clear z K)
 exact aR
abbrev Pr:List Nat:=[0,1,2,3,4,5,11,34]
theorem D7f (e:Ex)(U:e.Le):Ac prog 53 [Di e] (.d (.slice (Aq (Mx e)))):=by
 have h1:=B7q e (by have:=U.list;unfold sm;omega);have Z:=U.Co;have a1:=U.list;unfold Mx at *;generalize Bb e=l at *;have O:∀j,(Hx (l.take j)).length≤(Hx l).length:=fun j=>by
  conv=>rhs;rw [←Sw j l,A6x,B3]
  omega
 refine cB func53 ?_;refine sR Pr ?_;refine sR Pr ?_;refine A0.pp 3 3 3 rfl ?_;refine sC h1 Pr ?_;refine kR Pr fun K1 u1=>?_;refine A0.bb (A0.ii l (X:=Unit) (fun j _=>[(3,.acc 3),(4,.d (.slice (Db l))),(5,A9 j)]) (fun j _=>[(3,.rows 3 (Aq (Hx (l.take j))))])
  (fun _ _=>True) () trivial sS (by simp [ble,A7,Hx,Cc]) ?_ ?_)
 rotate_left
 ·intro j _ u I W dp V R _;have a0:=O j;have E:=O (j+1);rw [V,A6x,show Hx [u]=Vp u by simp [Hx]] at E;rw [V,A6x,show Hx [u]=Vp u by simp [Hx]];rw [B3] at E;generalize Hx (l.take j)=A at *;refine Ai R Pr fun J u2=>?_;refine gI u2 ?_;clear u2 J;refine sK fun J u2=>?_;refine A0.bb ?_;unfold Vp at *;rw [B3] at E
  (refine sV Pr fun K z=>?_;refine ci (Ed I) ?_;refine⟨Rz _,by (try simp only [Cc,B3,B6]);unfold lim;omega,?_⟩;(try refine ev ?_);apply z;clear z K)
  by_cases k3:u.kind=3
  ·have d3:decide (u.kind=3)=true:=Bn k3;rw [A8 (.inl k3)] at E ⊢
   (refine sV Pr fun K z=>?_;refine⟨by omega,_,Ed I,rfl,?_⟩;(try refine An d3 ?_);apply z;clear z K)
   refine A0.tt rfl ?_
   (refine lV Pr fun K z=>?_;refine ci (Ed I) ?_;refine⟨by simp,by (try simp only [Cc,B3,B6,Bg,Ch] at *);unfold lim;omega,?_⟩;(try refine ev ?_);apply z;clear z K;try simp only [A4,Aa])
   refine u2 _ _ ?_;clear u2 J
   (refine lV Pr fun K z=>?_;refine cl ?_;apply z;clear z K;try simp only [A4,])
   exact⟨(),trivial,sS,by simp [ble,A7,Cc,Bh,k3]⟩
  by_cases L:u.kind=5
  ·have d5:decide (u.kind=5)=true:=Bn L;rw [A8 (.inr L)] at E ⊢
   (refine sV Pr fun K z=>?_;refine⟨by omega,_,Ed I,rfl,?_⟩;(try refine An k3 ?_);refine⟨by omega,_,Ed I,rfl,?_⟩;(try refine An d5 ?_);apply z;clear z K)
   refine A0.tt rfl ?_
   (refine lV Pr fun K z=>?_;refine ci (Ed I) ?_;refine⟨by simp,by (try simp only [Cc,B3,B6,Bg,Ch] at *);unfold lim;omega,?_⟩;(try refine ev ?_);apply z;clear z K;try simp only [A4,Aa])
   refine u2 _ _ ?_;clear u2 J
   (refine lV Pr fun K z=>?_;refine cl ?_;apply z;clear z K;try simp only [A4,])
   exact⟨(),trivial,sS,by simp [ble,A7,Cc,Bh,L]⟩
  ·rw [A6 (by rintro (h| h) <;> contradiction),Ge]
   (refine sV Pr fun K z=>?_;refine⟨by omega,_,Ed I,rfl,?_⟩;(try refine An k3 ?_);refine⟨by omega,_,Ed I,rfl,?_⟩;(try refine An L ?_);apply z;clear z K)
   refine A0.ff rfl (A0.kk (u2 _ _ ?_));clear u2 J
   (refine lV Pr fun K z=>?_;refine cl ?_;apply z;clear z K;try simp only [A4,])
   exact⟨(),trivial,sS,by simp [ble,A7,Cc,k3,L]⟩
 intro _ _;rw [Cs];refine Ai B4 Pr fun J u2=>?_;refine A0.ss rfl ?_;simp only [A4,Aa,Af];refine u1 _ _ ?_;refine sR Pr ?_;exact aR
abbrev X2:List Nat:=[0,1,2,3,4,10,19]
theorem D4h (e:Ex)(V:e.Le):Ac prog 44 [Di e] (B0 (Jz e)):=by
 have h1:=B7q e (by have:=V.list;unfold sm;omega);have W:=V.list;unfold Jz;generalize Bb e=l at *;refine cB func44 ?_;refine sR X2 ?_;refine sC h1 X2 ?_;refine kR X2 fun K1 u1=>?_;refine A0.bb (A0.ii l (X:=Unit) (fun j _=>[(3,.d (.slice (Db l))),(4,A9 j)]) (fun _ _=>[])
  (fun j _=>l.all (fun x=>decide (x.targs.length=0))=(l.drop j).all (fun x=>decide (x.targs.length=0))) () rfl sS sB ?_ ?_)
 rotate_left
 ·intro j _ u O R Z tk L E;rw [Z,Na] at E;refine Ai L X2 fun I u2=>?_;refine gI u2 ?_;clear u2 I;refine sK fun I u2=>?_;refine A0.bb ?_;by_cases U:u.targs.length=0
  ·have J:¬(u.targs.length:Int) > 0:=by omega
   rw [Bn U,Ca] at E
   (refine sV X2 fun K z=>?_;refine⟨by omega,_,Ed O,rfl,?_⟩;(try refine An J ?_);apply z;clear z K)
   refine A0.ff rfl (A0.kk (u2 _ _ ?_));clear u2 I
   (refine lV X2 fun K z=>?_;refine cl ?_;apply z;clear z K;try simp only [A4,])
   exact⟨(),E,sS,sB⟩
  ·have J:(u.targs.length:Int) > 0:=by omega
   rw [E,Ci U,Bv]
   (refine sV X2 fun K z=>?_;refine⟨by omega,_,Ed O,rfl,?_⟩;(try refine An J ?_);apply z;clear z K)
   refine A0.tt rfl ?_;refine sR X2 ?_;exact aR
 intro _ E;rw [D6,Xv] at E;rw [E] at u1 ⊢;refine Ai B4 X2 fun I u2=>?_;refine A0.ss rfl ?_;simp only [A4,Aa,Af];refine u1 _ _ ?_;refine sR X2 ?_;exact aR
abbrev Ht:List Nat:=[0,1,2,3,4,5,6,7,8,13,25,41,57,70]
theorem D7y (p:Prog)(Z:p.Le):Ac prog 18 [Cv p] (.d (.slice (Aq (M9 p)))):=by
 have ah:=Z.Vd;have a3:=D7f p.main Z.main;have ae:=Z.main.Co;have a5:=E1r Z.Vd Z.decls;unfold M9;refine cB func18 ?_;refine sR Ht ?_;refine sR Ht ?_;refine A0.pp 3 3 3 rfl ?_;refine kR Ht fun K1 u1=>?_;refine A0.bb (A0.ii p.decls (X:=Unit) (fun j _=>[(1,.box 1 0),(3,.acc 3),(4,A9 j)]) (fun j _=>[(1,.cells ((Aj p).map .d)),(3,.rows 3 (Aq (Mo (p.decls.take j))))])
  (fun _ _=>True) () trivial sS (by simp [ble,A7,Mo,Cc,Aj]) ?_ ?_)
 rotate_left
 ·intro j _ d hd a1 dp tk a' _;have a4:=a5 j;have I:=Z.decls d a1;have ak:=I.A1;have ab:=I.fields;have ai:=I.X3;have a9:=E0s I.X3 I.sigs;have a6:=C8j d.sig I.sig;have a7:=D7f d.body I.body;have af:=A5u I.sig;have ac:=I.body.Co;rw [tk];have a2:Mo (p.decls.take j++[d])=Mo (p.decls.take j)++Fs d.A1++Gq d.fields++Ko d.sigs++Sq d:=by simp [Mo,A4i]
  rw [a2];generalize Mo (p.decls.take j)=A at *;refine Ai a' Ht fun K2 u2=>?_;refine gI u2 ?_;clear u2 K2;refine sK fun K2 u2=>?_;refine A0.bb ?_
  (refine sV Ht fun K z=>?_;refine ci (E2 hd) ?_;apply z;clear z K)
  refine kR Ht fun K3 u3=>?_;refine A0.bb (A0.ii d.A1 (X:=Unit) (fun i _=>[(1,.box 1 0),(3,.acc 3),(4,A9 j),(5,.box 5 0),(6,A9 i)]) (fun i _=>[(1,.cells ((Aj p).map .d)),(3,.rows 3 (Aq (A++Fs (d.A1.take i)))),(5,.cells (Vk d))])
   (fun _ _=>True) () trivial sS (by simp [ble,A7,Fs,Cc,Aj]) ?_ ?_)
  rotate_left
  ·intro i _ u W L V E R _;have a0:=(Ay.1 W).1;rw [E];refine Ai R Ht fun O J=>?_;refine gI J ?_;clear J O;refine sK fun O J=>?_;refine A0.bb ?_
   (refine lV Ht fun K z=>?_;refine ci (Ep W) ?_;refine⟨by simp,by (try simp only [Fs,B3,B6,Cw]);unfold lim;omega,?_⟩;(try refine ev ?_);apply z;clear z K;try simp only [A4,Aa])
   refine J _ _ ?_;clear J O
   (refine lV Ht fun K z=>?_;refine cl ?_;apply z;clear z K;try simp only [A4,])
   exact⟨(),trivial,sS,by simp [ble,A7,Cc,Fs,Aj,Bh]⟩
  intro _ _;rw [Cs];refine Ai B4 Ht fun O J=>?_;refine A0.ss rfl ?_;simp only [A4,Aa,Af];refine u3 _ _ ?_;clear J O u3 K3;refine kR Ht fun K3 u3=>?_;refine A0.bb (A0.ii d.fields (X:=Unit) (fun i _=>[(1,.box 1 0),(3,.acc 3),(4,A9 j),(5,.box 5 0),(7,A9 i)]) (fun i _=>[(1,.cells ((Aj p).map .d)),(3,.rows 3 (Aq (A++Fs d.A1++Gq (d.fields.take i)))),(5,.cells (Vk d))])
   (fun _ _=>True) () trivial sS (by simp [ble,A7,Gq,Cc,Aj]) ?_ ?_)
  rotate_left
  ·intro i _ u W L V E R _;have a0:=(Ay.1 W).1;rw [E];refine Ai R Ht fun O J=>?_;refine gI J ?_;clear J O;refine sK fun O J=>?_;refine A0.bb ?_
   (refine lV Ht fun K z=>?_;refine ci (E7 W) ?_;refine⟨by simp,by (try simp only [Fs,Gq,B3,B6,Cw]);unfold lim;omega,?_⟩;(try refine ev ?_);apply z;clear z K;try simp only [A4,Aa])
   refine J _ _ ?_;clear J O
   (refine lV Ht fun K z=>?_;refine cl ?_;apply z;clear z K;try simp only [A4,])
   exact⟨(),trivial,sS,by simp [ble,A7,Cc,Gq,Aj,Bh]⟩
  intro _ _;rw [Cs];refine Ai B4 Ht fun O J=>?_;refine A0.ss rfl ?_;simp only [A4,Aa,Af];refine u3 _ _ ?_;clear J O u3 K3;have ag:(A++Fs d.A1++Gq d.fields).length≤2600000004000:=by simp only [Fs,Gq,B3,B6];omega
  generalize A++Fs d.A1++Gq d.fields=A2 at *;refine kR Ht fun K3 u3=>?_;refine A0.bb (A0.ii d.sigs (X:=Unit) (fun i _=>[(1,.box 1 0),(3,.acc 3),(4,A9 j),(5,.box 5 0),(8,A9 i)]) (fun i _=>[(1,.cells ((Aj p).map .d)),(3,.rows 3 (Aq (A2++Ko (d.sigs.take i)))),(5,.cells (Vk d))])
   (fun _ _=>True) () trivial sS (by simp [ble,A7,Ko,Cc,Aj]) ?_ ?_)
  rotate_left
  ·intro i _ u W L V E R _;have a0:=(Ay.1 W).1;have aj:=A5u (I.sigs u L);have a8:=C8j u (I.sigs u L);have ad:=a9 i;rw [E,show Ko (d.sigs.take i++[u])=Ko (d.sigs.take i)++M4 u by simp [Ko],←Pg];generalize Ko (d.sigs.take i)=B at *;generalize M4 u=U at *;refine Ai R Ht fun O J=>?_;refine gI J ?_;clear J O;refine sK fun O J=>?_;refine A0.bb ?_
   (refine lV Ht fun K z=>?_;refine ci (E1 W) ?_;refine cc a8 ?_;refine⟨Rz _,by (try simp only [B3]);unfold lim;omega,?_⟩;(try refine ev ?_);apply z;clear z K;try simp only [A4,Aa])
   refine J _ _ ?_;clear J O
   (refine lV Ht fun K z=>?_;refine cl ?_;apply z;clear z K;try simp only [A4,])
   exact⟨(),trivial,sS,by simp [ble,A7,Cc,Aj]⟩
  intro _ _;rw [Cs];refine Ai B4 Ht fun O J=>?_;refine A0.ss rfl ?_;simp only [A4,Aa,Af];refine u3 _ _ ?_;clear J O u3 K3;have aa:=B6p I.X3 I.sigs;generalize Ko d.sigs=B at *;unfold Sq;by_cases k3:d.kind=3
  ·have d3:=Bn k3;rw [A8 k3];refine Ah d3 Ht ?_;refine A0.tt rfl ?_
   (refine sV Ht fun K z=>?_;refine cc a6 ?_;refine⟨Rz _,by (try simp only [B3]);unfold lim;omega,?_⟩;(try refine ev ?_);apply z;clear z K)
   (refine lV Ht fun K z=>?_;refine cc a7 ?_;refine⟨Rz _,by (try simp only [Cc,B3,B6]);unfold lim;omega,?_⟩;(try refine ev ?_);apply z;clear z K;try simp only [A4,Aa])
   refine u2 _ _ ?_;clear u2 K2
   (refine lV Ht fun K z=>?_;refine cl ?_;apply z;clear z K;try simp only [A4,])
   exact⟨(),trivial,sS,by simp [ble,A7,Cc,Aj,Sq,k3]⟩
  ·rw [A6 k3,Ge];refine Ah k3 Ht ?_;refine A0.ff rfl (A0.kk (u2 _ _ ?_));clear u2 K2
   (refine lV Ht fun K z=>?_;refine cl ?_;apply z;clear z K;try simp only [A4,])
   exact⟨(),trivial,sS,by simp [ble,A7,Cc,Aj,Sq,k3]⟩
 intro _ _;rw [Cs];have a4:=B7m Z.Vd Z.decls;refine Ai B4 Ht fun K2 u2=>?_;refine A0.ss rfl ?_;simp only [A4,Aa,Af];refine u1 _ _ ?_;clear u2 K2 u1 K1;rw [B3m]
 (refine sV Ht fun K z=>?_;refine cc a3 ?_;refine⟨Rz _,by (try simp only [Cc,B3,B6]);unfold lim;omega,?_⟩;(try refine ev ?_);apply z;clear z K)
 exact aR
abbrev I3:List Nat:=[0,1,2,3,4,5,6,7,13,22,27,53,58,68]
theorem G1v (p:Prog)(hp:p.Le)(a2:∀d,d∈p.decls→d.vars.length≤sm):Ac prog 16 [Cv p] (B0 (A4d p)):=by
 have h1:=D7y p hp;have a3:=D4h p.main hp.main;have a6:=B6v hp;have a8:=hp.Vd;unfold A4d;generalize M9 p=l at *;refine cB func16 ?_;refine sR I3 ?_;refine sC h1 I3 ?_;refine kR I3 fun K1 u1=>?_;refine A0.bb (A0.ii l (X:=Unit) (fun j _=>[(1,.box 1 0),(3,.d (.slice (Aq l))),(4,A9 j)]) (fun _ _=>[(1,.cells ((Aj p).map .d))])
  (fun j _=>Px l=Px (l.drop j)) () rfl sS (by simp [ble,A7,Aj]) ?_ ?_)
 rotate_left
 ·intro j _ u hu O dp tk Z E;rw [dp,show Px (u::l.drop (j+1))=(decide (u.args.length=0) && Px (l.drop (j+1))) from rfl] at E;refine Ai Z I3 fun R u2=>?_;refine gI u2 ?_;clear u2 R;refine sK fun R u2=>?_;refine A0.bb ?_;by_cases W:u.args.length=0
  ·have I:¬(u.args.length:Int) > 0:=by omega
   rw [Bn W,Ca] at E
   (refine sV I3 fun K z=>?_;refine⟨by omega,_,F5 hu,rfl,?_⟩;(try refine An I ?_);apply z;clear z K)
   refine A0.ff rfl (A0.kk (u2 _ _ ?_));clear u2 R
   (refine lV I3 fun K z=>?_;refine cl ?_;apply z;clear z K;try simp only [A4,])
   exact⟨(),E,sS,by simp [ble,A7,Aj]⟩
  ·have I:(u.args.length:Int) > 0:=by omega
   rw [Ci W,Bv] at E;rw [show Px l=false from E,Bv]
   (refine sV I3 fun K z=>?_;refine⟨by omega,_,F5 hu,rfl,?_⟩;(try refine An I ?_);apply z;clear z K)
   refine A0.tt rfl ?_;refine sR I3 ?_;exact aR
 intro _ E;rw [D6] at E;rw [show Px l=true from E,Ca] at u1 ⊢;clear E;refine Ai B4 I3 fun R u2=>?_;refine A0.ss rfl ?_;simp only [A4,Aa,Af];refine u1 _ _ ?_;clear u2 R u1 K1;refine kR I3 fun K1 u1=>?_;refine A0.bb (A0.ii p.decls (X:=Unit) (fun j _=>[(1,.box 1 0),(5,A9 j)]) (fun _ _=>[(1,.cells ((Aj p).map .d))])
  (fun j _=>p.decls.all Pb=(p.decls.drop j).all Pb) () rfl sS (by simp [ble,A7,Aj]) ?_ ?_)
 rotate_left
 ·intro j _ d hd O dp tk Z E;have V:=hp.decls d O;have hb:=D4h d.body V.body;have hf:=V.A1;have hv:=a2 d O;have a5:=V.sig.A1;have a7:=V.X3;rw [dp,Na] at E;have L:(decide (d.A1.length+d.vars.length+d.sig.A1.length=0) && (Jz d.body && Rb d.sigs))=false→(p.decls.all Pb && Jz p.main)=false:=fun h=>by rw [E,show Pb d=false from h];rfl
  have J:(decide (d.A1.length+d.vars.length+d.sig.A1.length=0) && (Jz d.body && Rb d.sigs))=true→p.decls.all Pb=(p.decls.drop (j+1)).all Pb:=fun h=>by rw [E,show Pb d=true from h,Ca]
  clear E;generalize Jz d.body=be at *;refine Ai Z I3 fun R u2=>?_;refine gI u2 ?_;clear u2 R;refine sK fun R u2=>?_;refine A0.bb ?_
  (refine sV I3 fun K z=>?_;refine ci (E2 hd) ?_;apply z;clear z K)
  refine sK fun K3 u3=>?_;by_cases W:d.A1.length+d.vars.length+d.sig.A1.length=0;rotate_left
  ·have I:(d.A1.length:Int)+(d.vars.length:Int)+(d.sig.A1.length:Int) > 0:=by omega
   rw [L (by rw [Ci W];rfl)]
   (refine sQ I3 fun K z=>?_;refine An I ?_;refine⟨by first| (unfold B7;omega)| (simp only [B7,sm] at *;omega),?_⟩;(try refine An I ?_);refine⟨by first| (unfold B7;omega)| (simp only [B7,sm] at *;omega),?_⟩;(try refine An I ?_);apply z;clear z K)
   refine tI ?_;refine sR I3 ?_;exact aR
  have I:¬(d.A1.length:Int)+(d.vars.length:Int)+(d.sig.A1.length:Int) > 0:=by omega
  rw [Bn W,Ca] at L J;cases be with
  |false =>
   rw [L rfl]
   (refine sQ I3 fun K z=>?_;refine An I ?_;refine⟨by first| (unfold B7;omega)| (simp only [B7,sm,lim] at *;omega),?_⟩;(try refine An I ?_);refine⟨by first| (unfold B7;omega)| (simp only [B7,sm,lim] at *;omega),?_⟩;(try refine An I ?_);refine cc hb ?_;apply z;clear z K)
   refine tI ?_;refine sR I3 ?_;exact aR
  |true =>
   rw [Ca] at L J
   (refine sQ I3 fun K z=>?_;refine An I ?_;refine⟨by first| (unfold B7;omega)| (simp only [B7,sm,lim] at *;omega),?_⟩;(try refine An I ?_);refine⟨by first| (unfold B7;omega)| (simp only [B7,sm,lim] at *;omega),?_⟩;(try refine An I ?_);refine cc hb ?_;apply z;clear z K)
   refine kI u3 ?_;clear u3 K3;refine sR I3 ?_;refine A0.bb (A0.ii d.sigs (X:=Unit) (fun i _=>[(1,.box 1 0),(5,A9 j),(6,.box 6 0),(7,A9 i)]) (fun _ _=>[(1,.cells ((Aj p).map .d)),(6,.cells (Vk d))])
    (fun i _=>Rb d.sigs=Rb (d.sigs.drop i)) () rfl sS (by simp [ble,A7,Aj]) ?_ ?_)
   rotate_left
   ·intro i _ u hu a4 U a1 a0 E;rw [U,show Rb (u::d.sigs.drop (i+1))=(decide (u.A1.length=0) && Rb (d.sigs.drop (i+1))) from rfl] at E;refine Ai a0 I3 fun K4 u4=>?_;refine gI u4 ?_;clear u4 K4;refine sK fun K4 u4=>?_;refine A0.bb ?_;by_cases W:u.A1.length=0
    ·have I:¬(u.A1.length:Int) > 0:=by omega
     rw [Bn W,Ca] at E
     (refine sV I3 fun K z=>?_;refine⟨by omega,_,E1 hu,rfl,?_⟩;(try refine An I ?_);apply z;clear z K)
     refine A0.ff rfl (A0.kk (u4 _ _ ?_));clear u4 K4
     (refine lV I3 fun K z=>?_;refine cl ?_;apply z;clear z K;try simp only [A4,])
     exact⟨(),E,sS,by simp [ble,A7,Aj]⟩
    ·have I:(u.A1.length:Int) > 0:=by omega
     rw [Ci W,Bv] at E;rw [L E]
     (refine sV I3 fun K z=>?_;refine⟨by omega,_,E1 hu,rfl,?_⟩;(try refine An I ?_);apply z;clear z K)
     refine A0.tt rfl ?_;refine sR I3 ?_;exact aR
   intro _ E;rw [D6] at E;refine Ai B4 I3 fun K4 u4=>?_;refine A0.ss rfl ?_;simp only [A4,Aa,Af];refine u2 _ _ ?_;clear u4 K4 u2 R
   (refine lV I3 fun K z=>?_;refine cl ?_;apply z;clear z K;try simp only [A4,])
   exact⟨(),J E,sS,by simp [ble,A7,Aj]⟩
 intro _ E;rw [D6,Xv] at E;rw [E,Ca] at u1 ⊢;clear E;refine Ai B4 I3 fun R u2=>?_;refine A0.ss rfl ?_;simp only [A4,Aa,Af];refine u1 _ _ ?_;clear u2 R u1 K1;refine sC a3 I3 ?_;exact aR
def Eo (s:Ap):Nat:=s.types.length+s.calls.length
theorem D0k (s:Ap)(hs:s.Sm):Ac prog 83 [Lj s] (A9 (Eo s)):=by
 have J:=hs.types.1;have I:=hs.calls.1;have E:((Eo s:Nat):Int)=(s.types.length:Int)+s.calls.length:=by unfold Eo;omega
 rw [E];refine cB func83 ?_;refine sR [0,1,2] ?_
 (refine sQ [0,1,2] fun K z=>?_;simp -implicitDefEqProofs only [EV,Nat.reduceEqDiff,reduceCtorEq,Mr,Mw,U6,Jx];refine⟨by first| (unfold B7;omega)| (simp only [B7,sm] at *;omega),?_⟩;apply z;clear z K)
 exact aR
def Ud (s:Ap):Bool:=s.types.any (fun t=>decide (60 < t.count 0)) ||(s.calls.any (fun c=>decide (60 < (Ty.mk [] c.targs 0).count 0)) ||(s.D7 ||decide (60 < Eo s)))
abbrev Mv:List Nat:=[0,1,2,3,4,9,18,23,34]
theorem E5f (s:Ap)(hs:s.Sm):Ac prog 84 [Lj s] (B0 (Ud s)):=by
 have h1:=hs.types.1;have h2:=hs.calls.1;have hz:=D0k s hs;unfold Ud;generalize Eo s=z at *;refine cB func84 ?_;refine sR Mv ?_;refine kR Mv fun K1 u1=>?_;refine A0.bb (A0.ii s.types (X:=Unit) (fun j _=>[(1,.box 1 0),(3,A9 j)]) (fun j _=>[(1,.cells (Jc s))])
  (fun j _=>s.types.any (fun t=>decide (60 < t.count 0))=(s.types.drop j).any (fun t=>decide (60 < t.count 0))) () rfl sS sB ?_ ?_)
 rotate_left
 ·intro j _ u U Z dp tk R I;have W:=A2q u 0 (by decide) (by decide);rw [dp,List.any_cons] at I;generalize u.count 0=k at *;refine Ai R Mv fun L u2=>?_;refine gI u2 ?_;clear u2 L;refine sK fun L u2=>?_;refine A0.bb ?_;by_cases J:60 < k
  ·have E:k > 60:=J;rw [I,Bn J,Tp,Tp]
   (refine sV Mv fun K z=>?_;refine ci (F5 U) ?_;refine⟨_,.inl ⟨_,rfl,W,rfl⟩,?_⟩;(try refine An E ?_);apply z;clear z K)
   refine A0.tt rfl ?_;refine sR Mv ?_;exact aR
  ·have E:¬k > 60:=J;rw [Ci J,V1] at I
   (refine sV Mv fun K z=>?_;refine ci (F5 U) ?_;refine⟨_,.inl ⟨_,rfl,W,rfl⟩,?_⟩;(try refine An E ?_);apply z;clear z K)
   refine A0.ff rfl (A0.kk (u2 _ _ ?_));clear u2 L;refine lT Mv ?_;exact⟨(),I,sS,by simp [ble,A7]⟩
 intro _ I;rw [D6,List.any_nil] at I;rw [I,V1] at u1 ⊢;clear I;refine Ai B4 Mv fun L u2=>?_;refine A0.ss rfl ?_;simp only [A4,Aa,Af];refine u1 _ _ ?_;clear u1 K1 u2 L;refine kR Mv fun K1 u1=>?_;refine A0.bb (A0.ii s.calls (X:=Unit) (fun j _=>[(1,.box 1 0),(4,A9 j)]) (fun j _=>[(1,.cells (Jc s))])
  (fun j _=>s.calls.any (fun c=>decide (60 < (Ty.mk [] c.targs 0).count 0))=(s.calls.drop j).any (fun c=>decide (60 < (Ty.mk [] c.targs 0).count 0))) () rfl sS sB ?_ ?_)
 rotate_left
 ·intro j _ u U Z dp tk R I;have W:=A2q (.mk [] u.targs 0) 0 (by decide) (by decide);rw [dp,List.any_cons] at I;generalize (Ty.mk [] u.targs 0).count 0=k at *;refine sK fun L u2=>?_
  (refine sQ Mv fun K z=>?_;simp -implicitDefEqProofs only [EV,Nat.reduceEqDiff,reduceCtorEq,Mw,U6,R,Jx];apply z;clear z K)
  refine gI u2 ?_;clear u2 L;refine sK fun L u2=>?_;refine A0.bb ?_;by_cases J:60 < k
  ·have E:k > 60:=J;rw [I,Bn J,Tp,Tp]
   (refine sV Mv fun K z=>?_;refine⟨by omega,_,Qd U,rfl,?_⟩;(try simp -implicitDefEqProofs only [EV,Nat.reduceAdd,Nat.reduceEqDiff,Nat.reduceLeDiff,reduceCtorEq,I9,H5]);refine⟨_,.inl ⟨_,rfl,W,rfl⟩,?_⟩;(try refine An E ?_);apply z;clear z K)
   refine A0.tt rfl ?_;refine sR Mv ?_;exact aR
  ·have E:¬k > 60:=J;rw [Ci J,V1] at I
   (refine sV Mv fun K z=>?_;refine⟨by omega,_,Qd U,rfl,?_⟩;(try simp -implicitDefEqProofs only [EV,Nat.reduceAdd,Nat.reduceEqDiff,Nat.reduceLeDiff,reduceCtorEq,I9,H5]);refine⟨_,.inl ⟨_,rfl,W,rfl⟩,?_⟩;(try refine An E ?_);apply z;clear z K)
   refine A0.ff rfl (A0.kk (u2 _ _ ?_));clear u2 L;refine lT Mv ?_;exact⟨(),I,sS,by simp [ble,A7]⟩
 intro _ I;rw [D6,List.any_nil] at I;rw [I,V1] at u1 ⊢;clear I;refine sK fun L u2=>?_
 (refine sQ Mv fun K z=>?_;simp -implicitDefEqProofs only [EV,Nat.reduceEqDiff,reduceCtorEq,Mw,U6,B4,Jx];apply z;clear z K)
 refine A0.ss rfl ?_;simp only [A4,Aa,Af];refine u1 _ _ ?_;clear u1 K1 u2 L;have a0:s=⟨s.types,s.calls,s.D7⟩:=rfl;cases O:s.D7 with
 |true =>rw [Tp];refine Ah O Mv ?_;exact aR
 |false =>
  rw [V1];have V:Ac prog 83 [.agg [.d (.slice (Aq s.types)),.d (.slice (Dn s.calls)),.d (.bool false)]] (A9 z):=by rw [←O];exact hz
  by_cases J:60 < z
  ·have E:(z:Int) > 60:=by omega
   rw [Bn J]
   (refine sQ Mv fun K z=>?_;refine An O ?_;refine⟨_,.inl ⟨_,rfl,V,rfl⟩,?_⟩;(try refine An E ?_);apply z;clear z K)
   exact aR
  ·have E:¬(z:Int) > 60:=by omega
   rw [Ci J]
   (refine sQ Mv fun K z=>?_;refine An O ?_;refine⟨_,.inl ⟨_,rfl,V,rfl⟩,?_⟩;(try refine An E ?_);apply z;clear z K)
   exact aR
theorem C3f {α:Type} {cmp:α→α→Int} {x:α}:∀{l:List α} {done:Bool} {out R:List α},Fe cmp x l done out=some R→R.length≤out.length+l.length+(if done=true then 0 else 1)∧∀t,t∈R→t=x∨t∈l∨t∈out
 |[],done,out,R,h=>by
  rw [Fe] at h;cases h;cases done
  ·simp;intro t ht;rcases ht with h| h <;> simp [h]
  ·simp;intro t ht;simp [ht]
 |t::l,done,out,R,h=>by
  rw [Fe] at h;split at h
  ·cases h
  split at h
  ·obtain⟨J,E⟩:=C3f h;refine⟨by clear E;cases done <;> simp_all <;> omega,fun u I=>?_⟩;rcases E u I with h3| h3| h3
   ·exact .inl h3
   ·exact .inr (.inl (by simp [h3]))
   ·simp only [Bw,As,Dt,Du] at h3;rcases h3 with h3| h3| h3
    ·exact .inr (.inr h3)
    ·exact .inl h3
    ·exact .inr (.inl (by simp [h3]))
  ·obtain⟨J,E⟩:=C3f h;refine⟨by clear E;cases done <;> simp_all <;> omega,fun u I=>?_⟩;rcases E u I with h3| h3| h3
   ·exact .inl h3
   ·exact .inr (.inl (by simp [h3]))
   ·simp only [Bw,As,Dt,Du] at h3;rcases h3 with h3| h3
    ·exact .inr (.inr h3)
    ·exact .inr (.inl (by simp [h3]))
theorem A3x {α:Type} {cmp:α→α→Int} {x:α} (l:List α):(I1 cmp l x).length≤l.length+1∧∀t,t∈I1 cmp l x→t=x∨t∈l:=by
 unfold I1;cases h:Fe cmp x l false [] with
 |none=>exact⟨by simp,fun t ht=>.inr ht⟩
 |some R =>
  obtain⟨I,E⟩:=C3f h;refine⟨by simpa using I,fun t ht=>?_⟩;rcases E t ht with h3| h3| h3
  ·exact .inl h3
  ·exact .inr h3
  ·simp at h3
theorem A0u {s:Ap} (hs:s.Sm) {x:Ty} (I:x.Sm):(G9 s x).Sm:=by
 unfold G9;split
 ·exact⟨hs.types,hs.calls⟩
 ·rename_i h;obtain⟨J,E⟩:=A3x (cmp:=Dz) (x:=x) s.types;refine⟨⟨by simp only;unfold sm;omega,fun t ht=>?_⟩,hs.calls⟩;rcases E t ht with rfl| h3
  ·exact I
  ·exact hs.types.2 t h3
theorem D0r {s:Ap} (hs:s.Sm) {x:Au} (I:x.Sm):(Gz s x).Sm:=by
 unfold Gz;split
 ·exact⟨hs.types,hs.calls⟩
 ·rename_i h;obtain⟨J,E⟩:=A3x (cmp:=Bj) (x:=x) s.calls;refine⟨hs.types,⟨by simp only;unfold sm;omega,fun t ht=>?_⟩⟩;rcases E t ht with rfl| h3
  ·exact I
  ·exact hs.calls.2 t h3
def T6 (s:Ap)(e:Ex)(z:Ty × Ey):Ap:=if z.2.bad=true then { s with D7:=s.D7 ||z.2.D7 } else Gz (G9 { s with D7:=s.D7 ||z.2.D7 } z.1) ⟨z.1,e.name,e.targs⟩
def Ju (p:Prog)(vars:List Param)(s:Ap)(e:Ex):Ap:=if e.kind=3∨e.kind=5 then G9 s e.type else if e.kind=2 then (match e.kids with
 |[]=>s
 |v::_=>T6 s e (Dg ⟨p,false,[],vars⟩ v)) else s
def Lq (p:Prog)(s:Ap)(e:Ex)(vars:List Param):Ap:=(Bb e).foldl (Ju p vars) s
theorem G3v {s:Ap} (hs:s.Sm) {e:Ex} (J:e.Sm) {z:Ty × Ey} (I:z.1.Sm):(T6 s e z).Sm:=by
 unfold T6;have E:Ap.Sm { s with D7:=s.D7 ||z.2.D7 }:=⟨hs.types,hs.calls⟩;split
 ·exact E
 ·exact D0r (A0u E I) ⟨I,J.name,J.targs⟩
theorem C9p {p:Prog} {vars:List Param} (J:Dd.Sm ⟨p,false,[],vars⟩) {s:Ap} (hs:s.Sm) {e:Ex} (E:e.Sm):(Ju p vars s e).Sm:=by
 unfold Ju;split
 ·exact A0u hs E.type
 split
 ·split
  ·exact hs
  ·rename_i v vs I;exact G3v hs E (A9i J v (E.kids.2 v (by rw [I];simp)))
 ·exact hs
theorem C0t {p:Prog} {vars:List Param} (E:Dd.Sm ⟨p,false,[],vars⟩):∀(l:List Ex) {s:Ap},s.Sm→(∀x,x∈l→x.Sm)→(l.foldl (Ju p vars) s).Sm
 |[],_,hs,_=>hs
 |e::l,_,hs,h=>C0t E l (C9p E hs (h e (by simp))) fun x I=>h x (by simp [I])
abbrev Im:List Nat:=[0,1,2,3,4,5,6,8,9,10,11,12,18,34,47,71]
theorem E2q (p:Prog)(vars:List Param)(hc:Dd.Sm ⟨p,false,[],vars⟩)(s:Ap)(hs:s.Sm)(e:Ex)(he:e.Sm)(a9:e.Gu)(hl:(Bb e).length≤sm) :
  Ac prog 82 [Cv p,Lj s,Di e,.d (.slice (B5 vars))] (Lj (Lq p s e vars)):=by
 have h1:=B7q e hl;have a4:=B2a (Q:=fun x=>x.Sm∧x.Gu) (fun e h x hx=>⟨h.1.kids.2 x hx,h.2.kids x hx⟩) e ⟨he,a9⟩;have hR:∃R,Lq p s e vars=R:=⟨_,rfl⟩;obtain⟨R,hR⟩:=hR;rw [hR];unfold Lq at hR;generalize Bb e=l at *;refine cB func82 ?_;refine sR Im ?_;refine sC h1 Im ?_;refine kR Im fun K1 u1=>?_;refine A0.bb (A0.ii l (X:=Ap) (fun j s=>[(3,.d (.slice (B5 vars))),(4,.box 4 0),(5,.box 5 0),(6,.box 6 0),(8,.box 8 0),(9,.d (.slice (Db l))),(10,A9 j)])
  (fun j s=>[(4,.cells ((Aj p).map .d)),(5,.cells (Jc s)),(6,.cells (exS e)),(8,.cells [.d .nil,.d .nil,.d (.bool false)])])
  (fun j s=>(l.drop j).foldl (Ju p vars) s=R∧s.Sm) s ⟨hR,hs⟩ sS (by simp [ble,A7,Aj]) ?_ ?_)
 rotate_left
 ·intro j s u J a7 dp tk a' I;obtain⟨I,L⟩:=I;obtain⟨O,a6⟩:=a4 u a7;have E:=C9p hc L O;rw [dp,Li] at I;refine Ai a' Im fun Z u2=>?_;refine gI u2 ?_;clear u2 Z;refine sK fun Z u2=>?_;refine A0.bb ?_;refine sK fun K3 u3=>?_;by_cases k3:u.kind=3
  ·have d3:decide (u.kind=3)=true:=Bn k3;have n2:¬u.kind=2:=by omega
   have U:=A8p s L u.type O.type;have V:Ju p vars s u=G9 s u.type:=by unfold Ju;rw [A8 (.inl k3)]
   rw [V] at I E;clear V;generalize G9 s u.type=s2 at *
   (refine sV Im fun K z=>?_;refine⟨by omega,_,Ed J,rfl,?_⟩;(try refine An d3 ?_);apply z;clear z K)
   refine A0.tt rfl ?_
   (refine lG Im [] 6 [] fun K z=>?_;refine ev ?_;refine ci (Ed J) ?_;refine cc U ?_;apply z;clear z K;try simp only [A4,])
   refine u3 _ _ ?_;clear u3 K3
   (refine sV Im fun K z=>?_;refine⟨by omega,_,Ed J,rfl,?_⟩;(try refine An n2 ?_);apply z;clear z K)
   refine A0.ff rfl (A0.kk (u2 _ _ ?_));clear u2 Z;refine lT Im ?_;exact⟨s2,⟨I,E⟩,sS,by simp [ble,A7,Aj]⟩
  by_cases k5:u.kind=5
  ·have d5:decide (u.kind=5)=true:=Bn k5;have n2:¬u.kind=2:=by omega
   have U:=A8p s L u.type O.type;have V:Ju p vars s u=G9 s u.type:=by unfold Ju;rw [A8 (.inr k5)]
   rw [V] at I E;clear V;generalize G9 s u.type=s2 at *
   (refine sV Im fun K z=>?_;refine⟨by omega,_,Ed J,rfl,?_⟩;(try refine An k3 ?_);refine⟨by omega,_,Ed J,rfl,?_⟩;(try refine An d5 ?_);apply z;clear z K)
   refine A0.tt rfl ?_
   (refine lG Im [] 6 [] fun K z=>?_;refine ev ?_;refine ci (Ed J) ?_;refine cc U ?_;apply z;clear z K;try simp only [A4,])
   refine u3 _ _ ?_;clear u3 K3
   (refine sV Im fun K z=>?_;refine⟨by omega,_,Ed J,rfl,?_⟩;(try refine An n2 ?_);apply z;clear z K)
   refine A0.ff rfl (A0.kk (u2 _ _ ?_));clear u2 Z;refine lT Im ?_;exact⟨s2,⟨I,E⟩,sS,by simp [ble,A7,Aj]⟩
  (refine sV Im fun K z=>?_;refine⟨by omega,_,Ed J,rfl,?_⟩;(try refine An k3 ?_);refine⟨by omega,_,Ed J,rfl,?_⟩;(try refine An k5 ?_);apply z;clear z K)
  refine A0.ff rfl (A0.kk (u3 _ _ ?_));clear u3 K3;by_cases k2:u.kind=2;rotate_left
  ·have V:Ju p vars s u=s:=by unfold Ju;rw [A6 (by omega),A6 k2]
   rw [V] at I
   (refine sV Im fun K z=>?_;refine⟨by omega,_,Ed J,rfl,?_⟩;(try refine An k2 ?_);apply z;clear z K)
   refine A0.ff rfl (A0.kk (u2 _ _ ?_));clear u2 Z;refine lT Im ?_;exact⟨s,⟨I,L⟩,sS,by simp [ble,A7,Aj]⟩
  have d2:decide (u.kind=2)=true:=Bn k2;obtain⟨v,hv⟩:=a6.some (.inl k2);have a1:=O.kids.2 v (Bx hv);have hT:=C1v ⟨p,false,[],vars⟩ hc v a1;have W:=A9i hc v a1;have V:Ju p vars s u=T6 s u (Dg ⟨p,false,[],vars⟩ v):=by
   unfold Ju;rw [A6 (by omega),A8 k2];cases hk:u.kids with
   |nil=>rw [hk] at hv;cases hv
   |cons y r=>rw [hk] at hv;cases hv;rfl
  rw [V] at I E;clear V;generalize Dg ⟨p,false,[],vars⟩ v=z at *;obtain⟨x,⟨q,b,lg⟩⟩:=z;simp only at W;obtain⟨ts,cs,a0⟩:=s;have a8:Ap.Sm ⟨ts,cs,a0 ||lg⟩:=⟨L.types,L.calls⟩;have a2:=A8p _ a8 x W;have a3:=A0u a8 W;have a5:=F3s _ a3 ⟨x,u.name,u.targs⟩ ⟨W,O.name,O.targs⟩;unfold T6 at I E;simp only at I E
  (refine sV Im fun K z=>?_;refine⟨by omega,_,Ed J,rfl,?_⟩;(try refine An d2 ?_);apply z;clear z K)
  refine A0.tt rfl ?_
  (refine sG Im [] 17 [⟨[],[],[11,12],[11,12]⟩,⟨[],[],[11,12],[11,12]⟩,⟨[],[],[11,12],[11,12]⟩,⟨[],[],[11,12],[11,12]⟩,⟨[],[],[11,12],[11,12]⟩,⟨[],[],[11,12],[11,12]⟩,⟨[],[],[11,12],[11,12]⟩,⟨[],[],[11,12],[11,12]⟩,⟨[],[],[11,12],[11,12]⟩,⟨[],[],[11,12],[11,12]⟩,⟨[],[],[11,12],[11,12]⟩,⟨[],[],[11,12],[11,12]⟩,⟨[],[],[11,12],[11,12]⟩,⟨[],[],[11,12],[11,12]⟩,⟨[11],[11],[12],[12]⟩,⟨[12],[12],[11],[11]⟩,⟨[11],[],[],[]⟩] fun K z=>?_;refine ev ?_;refine ci (Ed J) ?_;refine cj (Ed hv) ?_;refine cc hT ?_;apply z;clear z K)
  cases b with
  |true =>
   rw [A8 rfl] at I E;cases a0 <;> (
    refine sR Im ?_;refine sR Im ?_;refine A0.ff rfl (A0.kk (u2 _ _ ?_));clear u2 Z;refine lT Im ?_;exact⟨_,⟨I,E⟩,sS,by simp [ble,A7,Aj]⟩)
  |false =>
   rw [A6 (by simp)] at I E;cases a0 <;> (
    simp only [Tp,V1] at I E a2 a5;generalize G9 _ x=s3 at *;generalize Gz s3 _=s4 at *;refine sR Im ?_;refine sR Im ?_;refine A0.tt rfl ?_
    (refine lG Im [] 15 [] fun K z=>?_;refine ev ?_;refine cc a2 ?_;refine ci (Ed J) ?_;refine ci (Ed J) ?_;refine cc a5 ?_;apply z;clear z K;try simp only [A4,Aa])
    refine u2 _ _ ?_;clear u2 Z;refine lT Im ?_;exact⟨_,⟨I,E⟩,sS,by simp [ble,A7,Aj]⟩)
 intro s' I;obtain⟨I,_⟩:=I;rw [D6,Tu] at I;subst I;refine Ai B4 Im fun Z u2=>?_;refine A0.ss rfl ?_;simp only [A4,Aa,Af];refine u1 _ _ ?_;refine sR Im ?_;exact aR
def V0 (d:Decl):List A3:=d.vars++Ad d.sig.A1
def R3 (x:Ty)(c:Au):List Ty:=x.args++c.targs
def A2c (p:Prog)(d:Decl)(x:Ty)(c:Au):List Param:=(Mu p false d).vars.map (Param.subst (V0 d) (R3 x c))
def N4 (d:Decl)(x:Ty)(c:Au):Ex:=d.body.subst (V0 d) (R3 x c)
def Qe (p:Prog)(s:Ap)(x:Ty)(c:Au):Ap:=if Kk p x c.name < 0 then s else match p.decls[(Kk p x c.name).toNat]? with
 |none=>s
 |some d=>Lq p s (N4 d x c) (A2c p d x c)
mutual
theorem C5j (v:List A3)(a:List Ty):∀e:Ex,(Bb (e.subst v a)).length=(Bb e).length
 |.mk k n t l ks q=>by rw [W7,Bb,Bb];have:(Ex.mk k n t l ks q).kids=ks:=rfl;rw [this,Bg,Bg,C9r v a ks]
theorem C9r (v:List A3)(a:List Ty):∀l:List Ex,(Cr (l.map (Ex.subst v a))).length=(Cr l).length
 |[]=>rfl
 |e::l=>by rw [Cz,Cr,Cr,B3,B3,C5j v a e,C9r v a l]
end
theorem E2d (p:Prog)(x:Ty)(m:A3):Kk p x m < 0∨∃(j:Nat)(d:Decl),Kk p x m=j∧p.decls[j]? = some d∧d.kind=3:=by
 unfold Kk;split
 ·rcases N1 (J7 x.name m) p.decls with ⟨E,_⟩| ⟨j,d,E,I,J⟩
  ·left;unfold Mf;rw [E];split
   ·rw [A6 (by omega)];decide
   ·decide
  ·unfold Mf;rw [E,Gr,I];simp only;split
   ·refine .inr ⟨j,d,rfl,I,?_⟩;simp only [J7,B1,D8] at J;exact J.1.1
   ·exact .inl (by decide)
 ·exact .inl (by decide)
theorem B0x {x:Ty} {c:Au} (J:x.Sm)(E:c.Sm):∀u,u∈R3 x c→u.Sm:=fun u I=>(Bw.1 I).elim (J.arg u) (E.targs.2 u)
theorem E3d {p:Prog} (h:p.Fit) {d:Decl} (hd:d∈p.decls) {x:Ty} {c:Au} (J:x.Sm)(E:c.Sm):Dd.Sm ⟨p,false,[],A2c p d x c⟩:=by have hs:=B9y h.sm false (h.sm.decls.2 d hd) (h.two d hd) (h.par d hd);refine⟨h.sm,by simp,by simp,by simp only [A2c,B6];exact hs.vl,fun f I=>?_⟩;obtain⟨g,L,rfl⟩:=Ax.1 I;have:=hs.vars g L;exact⟨this.name,this.type.subst (B0x J E)⟩
theorem F1e {p:Prog} (h:p.Fit) {s:Ap} (hs:s.Sm) {x:Ty} {c:Au} (I:x.Sm)(J:c.Sm):(Qe p s x c).Sm:=by
 unfold Qe;split
 ·exact hs
 ·split
  ·exact hs
  ·rename_i d hd;have E:=Bx hd;refine C0t (E3d h E I J) _ hs fun y L=>?_;exact B2a (Q:=Ex.Sm) (fun e h x I=>h.kids.2 x I) _ (Ex.Sm.subst (B0x I J) _ (h.sm.decls.2 d E).body) y L
abbrev Lg:List Nat:=[0,1,2,3,4,5,6,7,8,9,10,11,12,13,14,15,16,23,30,39,53]
theorem F3w (p:Prog)(h:p.Fit)(a7:p.Le)(a1:∀d,d∈p.decls→d.kind=3→d.body.Gu)(s:Ap)(hs:s.Sm)(x:Ty)(U:x.Sm)(c:Au)(W:c.Sm) :
  Ac prog 168 [Cv p,Lj s,Be x,N6 c] (Lj (Qe p s x c)):=by
 have a8:=h.sm.decls.1;have hm:=D1z p a8 x c.name;have J:=E2d p x c.name;unfold Qe;by_cases O:Kk p x c.name < 0
 ·rw [A8 O];generalize Kk p x c.name=i at *;refine cB func168 ?_;refine sR Lg ?_;refine sC hm Lg ?_;refine Ai O Lg fun K1 u1=>?_;refine tI ?_;refine sR Lg ?_;exact aR
 ·rw [A6 O];obtain⟨j,d,hj,hd,hk⟩:=J.resolve_left O;have E:=Bx hd;have I:=h.sm.decls.2 d E;rw [hj] at hm O ⊢;rw [Gr,hd];simp only;have ad:=I.vars.1;have a0:=I.sig.A1.1;have ab:=U.len;have ac:=W.targs.1;have hn:=To d.sig.A1 a0;have a6:=D3g p h.sm false d I (h.two d E) (h.par d E);have L:=B9y h.sm false I (h.two d E) (h.par d E);have hS:=fun t ht=>Ur (V0 d) (R3 x c) (B0x U W) t ht;have hb:=F9v (V0 d) (R3 x c) (B0x U W) d.body I.body;have hN:=E2q p (A2c p d x c) (E3d h E U W) s hs (N4 d x c) (Ex.Sm.subst (B0x U W) _ I.body) ((a1 d E hk).subst _ _) (by
   unfold N4;rw [C5j];have:=(a7.decls d E).body.list;unfold sm;omega)
  have a5:C6 (V0 d)=C6 d.vars++C6 (d.sig.A1.map (·.name)):=by simp [V0,C6,Ad]
  have a4:Aq (R3 x c)=Aq x.args++Aq c.targs:=by simp [R3,Cc]
  have a':=L.vl;have a2:=L.vars;unfold A2c N4 at *;generalize Lq p s (d.body.subst (V0 d) (R3 x c)) ((Mu p false d).vars.map (Param.subst (V0 d) (R3 x c)))=R at *;generalize aa:V0 d=NN at *;generalize af:R3 x c=AA at *;generalize Mu p false d=sc at *;refine cB func168 ?_;refine sR Lg ?_;refine sC hm Lg ?_;refine Ai O Lg fun K1 u1=>?_;refine kI u1 ?_;clear u1 K1
  (refine sV Lg fun K z=>?_;refine ci (E2 hd) ?_;apply z;clear z K)
  (refine sG Lg [30] 7 [⟨[30],[30],[],[]⟩,⟨[],[],[30],[30]⟩,⟨[],[],[30],[30]⟩,⟨[30],[30],[],[]⟩,⟨[],[],[30],[30]⟩,⟨[],[],[30],[30]⟩,⟨[],[],[30],[30]⟩] fun K z=>?_;refine ev ?_;refine⟨A4g _,by (try simp only [C6,B6,Ch]);unfold lim sm at *;omega,?_⟩;(try refine ev ?_);refine cc hn ?_;refine⟨A4g _,by (try simp only [B6]);unfold lim sm at *;omega,?_⟩;(try refine ev ?_);apply z;clear z K)
  (refine sG Lg [39] 6 [⟨[39],[39],[],[]⟩,⟨[],[],[39],[39]⟩,⟨[],[],[39],[39]⟩,⟨[39],[39],[],[]⟩,⟨[],[],[39],[39]⟩,⟨[],[],[39],[39]⟩] fun K z=>?_;refine ev ?_;refine⟨Rz _,by (try simp only [Cc,B6,Ch]);unfold lim sm at *;omega,?_⟩;(try refine ev ?_);refine⟨Rz _,by (try simp only [Cc,B3,B6,Ch]);unfold lim sm at *;omega,?_⟩;(try refine ev ?_);apply z;clear z K)
  rw [←a5,←a4]
  (refine A0.Kx 30 rfl ?_;refine A0.Kx 39 rfl (wk [(4,.box 4 0),(5,.box 5 0),(8,.box 8 0),(10,.box 10 0),(11,Ct NN),(12,Cg AA)] [(4,.cells ((Aj p).map .d)),(5,.cells (Jc s)),(8,.cells [.d .nil,.d .nil,.d (.bool false)]),(10,.cells (Vk d))] ?_))
  refine sC a6 Lg ?_;refine sR Lg ?_;refine A0.pp 14 5 14 rfl ?_;refine kR Lg fun K1 u1=>?_;refine A0.bb (A0.ii sc.vars (X:=Unit) (fun j _=>[(4,.box 4 0),(5,.box 5 0),(8,.box 8 0),(10,.box 10 0),(11,Ct NN),(12,Cg AA),(13,.box 13 0),(14,.acc 14),(15,A9 j)])
   (fun j _=>[(4,.cells ((Aj p).map .d)),(5,.cells (Jc s)),(8,.cells [.d .nil,.d .nil,.d (.bool false)]),(10,.cells (Vk d)),(13,.cells ((Ft sc).map .d)),(14,.rows 5 (B5 ((sc.vars.take j).map (Param.subst NN AA))))])
   (fun _ _=>True) () trivial sS (by simp [ble,A7,Aj,Ft,B5]) ?_ ?_)
  rotate_left
  ·intro j _ v hv V dp tk a9 _;have ae:=(Ay.1 hv).1;have a3:=hS v.type (a2 v V).type;rw [tk];refine sK fun Z u2=>?_
   (refine sQ Lg fun K z=>?_;simp -implicitDefEqProofs only [EV,Nat.reduceEqDiff,reduceCtorEq,Uv,A3h,a9,Ft];apply z;clear z K)
   refine gI u2 ?_;clear u2 Z;refine sK fun Z u2=>?_;refine A0.bb ?_
   (refine sV Lg fun K z=>?_;refine ci (E7 hv) ?_;apply z;clear z K)
   refine sC a3 Lg ?_
   (refine lV Lg fun K z=>?_;refine⟨by simp,by (try simp only [B6,Cw]);unfold lim sm at *;omega,?_⟩;(try refine ev ?_);apply z;clear z K;try simp only [A4,Aa])
   refine u2 _ _ ?_;clear u2 Z;refine lT Lg ?_;exact⟨(),trivial,sS,by simp [ble,A7,Aj,Ft,B5,Gc,Param.subst]⟩
  intro _ _;rw [Cs];refine sK fun Z u2=>?_
  (refine sQ Lg fun K z=>?_;simp -implicitDefEqProofs only [EV,Nat.reduceEqDiff,reduceCtorEq,Uv,A3h,B4,Ft];apply z;clear z K)
  refine A0.ss rfl ?_;simp only [A4,Aa,Af];refine u1 _ _ ?_;clear u2 Z u1 K1
  (refine A0.Kx 14 rfl (wk [(4,.box 4 0),(5,.box 5 0),(8,.box 8 0),(10,.box 10 0),(11,Ct NN),(12,Cg AA),(14,.d (.slice (B5 (sc.vars.map (Param.subst NN AA)))))] [(4,.cells ((Aj p).map .d)),(5,.cells (Jc s)),(8,.cells [.d .nil,.d .nil,.d (.bool false)]),(10,.cells (Vk d))] ?_))
  (refine sG Lg [] 8 [] fun K z=>?_;refine ev ?_;refine cc hb ?_;refine cc hN ?_;apply z;clear z K)
  exact aR
def Jn (s:Ap)(l:List Ty):Ap:=l.foldl G9 s
def Rf (p:Prog)(x:Ty)(c:Au):Option A5:=if F8 (Cb p [] x) c.name < 0 then none else match (Cb p [] x)[(F8 (Cb p [] x) c.name).toNat]? with
 |none=>none
 |some g=>if g.A1.length=c.targs.length∧Dj p [] x c.on=true then some g else none
def Y5 (g:A5)(c:Au):List Ty:=g.params.map fun q=>q.type.subst (Ad g.A1) c.targs
def Ym (g:A5)(c:Au):Ty:=g.result.subst (Ad g.A1) c.targs
def Kh (p:Prog)(x:Ty)(out:Ap)(c:Au):Ap:=match Rf p x c with
 |none=>out
 |some g=>Qe p (G9 (Jn out (Y5 g c)) (Ym g c)) x c
def Qk (p:Prog)(s out:Ap)(x:Ty):Ap:=s.calls.foldl (Kh p x) (if Bz p x 1=true then Jn out ((C5 p x).map (·.type)) else out)
def Km (p:Prog)(s:Ap):Ap:=s.types.foldl (Qk p s) s
theorem C2c:∀(l:List Ty) {s:Ap},s.Sm→(∀t,t∈l→t.Sm)→(Jn s l).Sm
 |[],_,hs,_=>hs
 |t::l,_,hs,h=>C2c l (A0u hs (h t (by simp))) fun u E=>h u (by simp [E])
theorem D9d {p:Prog} (h:p.Fit) {x:Ty} (O:x.Sm) {out:Ap} (R:out.Sm) {c:Au} (J:c.Sm):(Kh p x out c).Sm:=by
 unfold Kh;split
 ·exact R
 ·rename_i g E;have I:g.Sm:=by
   unfold Rf at E;split at E
   ·cases E
   ·split at E
    ·cases E
    ·rename_i V L;split at E
     ·cases E;exact A0o h.sm (by simp) O _ (Bx L)
     ·cases E
  refine F1e h (A0u (C2c _ R fun t ht=>?_) (I.result.subst J.targs.2)) O J;obtain⟨q,U,rfl⟩:=Ax.1 ht;exact (I.params.2 q U).type.subst J.targs.2
theorem B9u {α:Type} {f:Ap→α→Ap}:∀(l:List α) {s:Ap},(∀s a,a∈l→s.Sm→(f s a).Sm)→s.Sm→(l.foldl f s).Sm
 |[],_,_,hs=>hs
 |a::l,_,h,hs=>B9u l (fun s b E=>h s b (by simp [E])) (h _ a (by simp) hs)
theorem D9r {p:Prog} (h:p.Fit) {s:Ap} (hs:s.Sm) {x:Ty} (I:x.Sm) {out:Ap} (J:out.Sm):(Qk p s out x).Sm:=by
 refine B9u _ (fun R c L E=>D9d h I E (hs.calls.2 c L)) ?_;split
 ·refine C2c _ J fun t ht=>?_;obtain⟨f,O,rfl⟩:=Ax.1 ht;exact (B4s h.sm I f O).type
 ·exact J
theorem C7p {p:Prog} (h:p.Fit) {s:Ap} (hs:s.Sm):(Km p s).Sm:=B9u _ (fun J x I E=>D9r h hs (hs.types.2 x I) E) hs
abbrev z38:Ar:=.cells [.d .nil,.d .nil,.d (.bool false)]
abbrev Fo:List Nat:=[0,1,2,3,4,5,6,7,8,9,10,11,12,13,14,15,21,31,38,55,88,102]
theorem G5u (p:Prog)(h:p.Fit)(ay:p.Le)(au:∀d,d∈p.decls→d.kind=3→d.body.Gu)(s:Ap)(hs:s.Sm):Ac prog 85 [Cv p,Lj s] (Lj (Km p s)):=by
 have b7:=hs.types.1;have b5:=hs.calls.1;generalize hR:Km p s=R;unfold Km at hR;refine cB func85 ?_;refine sR Fo ?_;refine sR Fo ?_;refine kR Fo fun K1 u1=>?_;refine A0.bb (A0.ii s.types (X:=Ap) (fun j out=>[(2,.box 2 0),(3,.box 3 0),(4,.box 4 0),(5,.box 5 0),(6,A9 j)]) (fun j out=>[(2,.cells ((Aj p).map .d)),(3,.cells (Jc s)),(4,z38),(5,.cells (Jc out))])
  (fun j out=>(s.types.drop j).foldl (Qk p s) out=R∧out.Sm) s ⟨hR,hs⟩ sS (by simp [ble,A7,Aj]) ?_ ?_)
 rotate_left
 ·intro j out x a9S aj dp tk az hI;obtain⟨hI,ho⟩:=hI;have hx:=hs.types.2 x aj;have aq:=D9r h hs hx ho;rw [dp,Li] at hI;have a6:=A5s p x 1;have a9:=B6r p h.sm [] (by simp) (by simp) x hx;simp only [show Az ([]:List Ak)=[] from rfl] at a9;have ax:=W3 h.sm [] x;have b3:=A0o h.sm (env:=[]) (by simp) hx;refine Ai az Fo fun K2 u2=>?_;refine gI u2 ?_;clear u2 K2;refine sK fun K2 u2=>?_;refine A0.bb ?_
  (refine sV Fo fun K z=>?_;refine ci (F5 a9S) ?_;apply z;clear z K)
  refine A0.D6f fun K3 u3 ac=>?_;have key:∀o1:Ap,o1.Sm→s.calls.foldl (Kh p x) o1=Qk p s out x→K3 [(2,.box 2 0),(3,.box 3 0),(4,.box 4 0),(5,.box 5 0),(6,A9 j),(7,.box 7 0)] [(2,.cells ((Aj p).map .d)),(3,.cells (Jc s)),(4,z38),(5,.cells (Jc o1)),(7,.cells (Rw x))]:=by
   intro o1 b2 hT;refine u3 _ _ ?_;clear ac u3 K3;refine sC a9 Fo ?_;generalize ai:Cb p [] x=set at *;refine sR Fo ?_;refine A0.bb (A0.ii s.calls (X:=Ap) (fun k o=>[(2,.box 2 0),(3,.box 3 0),(4,.box 4 0),(5,.box 5 0),(6,A9 j),(7,.box 7 0),(10,.d (.slice (B9 set))),(11,A9 k)])
    (fun k o=>[(2,.cells ((Aj p).map .d)),(3,.cells (Jc s)),(4,z38),(5,.cells (Jc o)),(7,.cells (Rw x))])
    (fun k o=>(s.calls.drop k).foldl (Kh p x) o=Qk p s out x∧o.Sm) o1 ⟨hT,b2⟩ sS (by simp [ble,A7,Aj]) ?_ ?_)
   ·intro o I;obtain⟨I,af⟩:=I;rw [D6,Tu] at I;subst I;refine sK fun K4 u4=>?_
    (refine sQ Fo fun K z=>?_;simp -implicitDefEqProofs only [EV,Nat.reduceEqDiff,reduceCtorEq,Mw,U6,B4,Jx];apply z;clear z K)
    refine A0.ss rfl ?_;simp only [A4,Aa,Af];refine u2 _ _ ?_;clear u4 K4 u2 K2;refine lT Fo ?_;exact⟨_,⟨hI,aq⟩,sS,by simp [ble,A7,Aj]⟩
   ·intro k o c b0 ad a4 ao am I;obtain⟨I,af⟩:=I;rw [a4,Li] at I;have hc:=hs.calls.2 c ad;have V:=D9d h hx af hc;have hf:=C4u set c.name ax;have a1:=A9k p h.sm [] (by simp) (by simp) x c.on hx hc.on;simp only [show Az ([]:List Ak)=[] from rfl] at a1;have J:Rf p x c=if F8 set c.name < 0 then none else match set[(F8 set c.name).toNat]? with
     |none=>none
     |some g=>if g.A1.length=c.targs.length∧Dj p [] x c.on=true then some g else none:=by unfold Rf;rw [ai]
    refine sK fun K4 u4=>?_
    (refine sQ Fo fun K z=>?_;simp -implicitDefEqProofs only [EV,Nat.reduceEqDiff,reduceCtorEq,Mw,U6,am,Jx];apply z;clear z K)
    refine gI u4 ?_;clear u4 K4;refine A0.D6f fun K4 u4 a5=>?_;refine A0.bb ?_
    (refine sV Fo fun K z=>?_;refine⟨by omega,_,Qd b0,rfl,?_⟩;(try simp -implicitDefEqProofs only [EV,Nat.reduceAdd,Nat.reduceEqDiff,Nat.reduceBEq,Nat.reduceLeDiff,reduceCtorEq,A0y,H5]);apply z;clear z K)
    have skip:Rf p x c=none→K4 [(2,.box 2 0),(3,.box 3 0),(4,.box 4 0),(5,.box 5 0),(6,A9 j),(7,.box 7 0),(10,.d (.slice (B9 set))),(11,A9 k)] [(2,.cells ((Aj p).map .d)),(3,.cells (Jc s)),(4,z38),(5,.cells (Jc o)),(7,.cells (Rw x))]:=by
     intro hn;have ab:Kh p x o c=o:=by unfold Kh;rw [hn]
     rw [ab] at I V;refine u4 _ _ ?_;refine lT Fo ?_;exact⟨o,⟨I,V⟩,sS,by simp [ble,A7,Aj]⟩
    unfold F8 at J;rcases N1 (fun s:A5=>decide (s.name=c.name)) set with ⟨h1,_⟩| ⟨n,g,h1,h2,_⟩
    ·rw [h1] at J hf;rw [A8 (by decide)] at J;refine sC hf Fo ?_;refine sK fun K5 u5=>?_;refine dR Fo 19 ?_;refine A0.tt rfl (A0.xx ?_);simp only [A4,Aa,Af];exact a5 sS (by simp [ble,A7,Aj]) (skip J)
    have a7:¬(n:Int) < 0:=by omega
    have a0:=b3 g (Bx h2);rw [h1] at J hf;rw [A6 a7,Gr,h2] at J;simp only at J;by_cases ak:g.A1.length=c.targs.length;rotate_left
    ·rw [A6 fun hh=>ak hh.1] at J;have W:¬(g.A1.length:Int)=(c.targs.length:Int):=by omega
     refine sC hf Fo ?_;refine sK fun K5 u5=>?_
     (refine sG Fo [] 19 [] fun K z=>?_;refine An a7 ?_;refine⟨by omega,_,E1 h2,rfl,?_⟩;(try refine An W ?_);apply z;clear z K)
     refine A0.tt rfl (A0.xx ?_);simp only [A4,Aa,Af];exact a5 sS (by simp [ble,A7,Aj]) (skip J)
    have W:(g.A1.length:Int)=(c.targs.length:Int):=by omega
    cases hb:Dj p [] x c.on with
    |false =>
     rw [hb] at a1;rw [A6 fun hh=>by rw [hb] at hh;cases hh.2] at J;refine sC hf Fo ?_;refine sK fun K5 u5=>?_
     (refine sG Fo [] 19 [] fun K z=>?_;refine An a7 ?_;refine⟨by omega,_,E1 h2,rfl,?_⟩;(try refine An W ?_);refine cc a1 ?_;apply z;clear z K)
     refine A0.tt rfl (A0.xx ?_);simp only [A4,Aa,Af];exact a5 sS (by simp [ble,A7,Aj]) (skip J)
    |true =>
     rw [hb] at a1;rw [A8 ⟨ak,hb⟩] at J;clear skip;have ab:Kh p x o c=Qe p (G9 (Jn o (Y5 g c)) (Ym g c)) x c:=by unfold Kh;rw [J]
     rw [ab] at I V;have ah:=To g.A1 a0.A1.1;rw [show g.A1.map (fun x=>x.name)=Ad g.A1 from rfl] at ah;have b6:=a0.params.1;have a':=fun t ht=>Ur (Ad g.A1) c.targs hc.targs.2 t ht;have aa:=a0.result.subst (vars:=Ad g.A1) hc.targs.2;refine sC hf Fo ?_;refine sK fun K5 u5=>?_
     (refine sG Fo [] 19 [] fun K z=>?_;refine An a7 ?_;refine⟨by omega,_,E1 h2,rfl,?_⟩;(try refine An W ?_);refine cc a1 ?_;apply z;clear z K)
     refine kI u5 ?_;clear u5 K5
     (refine sV Fo fun K z=>?_;refine ci (E1 h2) ?_;refine cc ah ?_;apply z;clear z K)
     refine kR Fo fun K5 u5=>?_;refine A0.bb (A0.ii g.params (X:=Ap) (fun i q=>[(2,.box 2 0),(3,.box 3 0),(4,.box 4 0),(5,.box 5 0),(6,A9 j),(7,.box 7 0),(10,.d (.slice (B9 set))),(11,A9 k),(12,.box 12 0),(13,A9 n),(14,Ct (Ad g.A1)),(15,A9 i)])
      (fun i q=>[(2,.cells ((Aj p).map .d)),(3,.cells (Jc s)),(4,z38),(5,.cells (Jc q)),(7,.cells (Rw x)),(12,.cells (caS c))])
      (fun i q=>Jn q ((g.params.drop i).map fun q=>q.type.subst (Ad g.A1) c.targs)=Jn o (Y5 g c)∧q.Sm) o ⟨rfl,af⟩ sS (by simp [ble,A7,Aj]) ?_ ?_)
     rotate_left
     ·intro i q v ae U L a8 a2 E;obtain⟨E,hq⟩:=E;have hv:=a0.params.2 v U;have ap:=a' v.type hv.type;have ag:=hv.type.subst (vars:=Ad g.A1) hc.targs.2;have O:=A8p q hq _ ag;have a3:=A0u hq ag;rw [L,Cz] at E;unfold Jn at E;rw [Li] at E;generalize v.type.subst (Ad g.A1) c.targs=vt at *;generalize G9 q vt=q2 at *;refine sK fun K6 Z=>?_
      (refine sV Fo fun K z=>?_;refine⟨by omega,_,E1 h2,rfl,?_⟩;(try refine An a2 ?_);apply z;clear z K)
      refine gI Z ?_;clear Z K6;refine sK fun K6 Z=>?_;refine A0.bb ?_
      (refine lG Fo [] 14 [] fun K z=>?_;refine ev ?_;refine ci (E1 h2) ?_;refine ci (E7 ae) ?_;refine cc ap ?_;refine cc O ?_;apply z;clear z K;try simp only [A4,Aa])
      refine Z _ _ ?_;clear Z K6;refine lT Fo ?_;exact⟨q2,⟨E,a3⟩,sS,by simp [ble,A7,Aj]⟩
     intro q E;obtain⟨E,hq⟩:=E;rw [D6,Hr] at E;rw [←E] at I V;rw [show Jn q []=q from rfl] at I V;have O:=A8p q hq _ aa;have a3:=A0u hq aa;have ar:=a' g.result a0.result;unfold Ym at I V;generalize g.result.subst (Ad g.A1) c.targs=rt at *;have av:=F3w p h ay au _ a3 x hx c hc;generalize G9 q rt=q2 at *;generalize Qe p q2 x c=q3 at *;refine sK fun K6 Z=>?_
     (refine sV Fo fun K z=>?_;refine⟨by omega,_,E1 h2,rfl,?_⟩;(try refine An B4 ?_);apply z;clear z K)
     refine A0.ss rfl ?_;simp only [A4,Aa,Af];refine u5 _ _ ?_;clear Z K6 u5 K5
     (refine sG Fo [] 10 [] fun K z=>?_;refine ev ?_;refine ci (E1 h2) ?_;refine cc ar ?_;refine cc O ?_;apply z;clear z K)
     (refine lV Fo fun K z=>?_;refine cc av ?_;apply z;clear z K;try simp only [A4,Aa])
     refine u4 _ _ ?_;clear a5 u4 K4;refine lT Fo ?_;exact⟨q3,⟨I,V⟩,sS,by simp [ble,A7,Aj]⟩
  cases hi:Bz p x 1 with
  |false =>
   rw [hi] at a6;have hT:s.calls.foldl (Kh p x) out=Qk p s out x:=by unfold Qk;rw [hi];rfl
   refine sC a6 Fo ?_;refine A0.ff rfl (A0.kk (ac sS (by simp [ble,A7,Aj]) (key out ho hT)))
  |true =>
   rw [hi] at a6;have hT:s.calls.foldl (Kh p x) (Jn out ((C5 p x).map (·.type)))=Qk p s out x:=by unfold Qk;rw [hi];rfl
   have aw:=C5d p h.sm x hx hi;have b4:=C1w h.sm x;have b1:=B4s h.sm hx;generalize C5 p x=fl at *;refine sC a6 Fo ?_;refine A0.tt rfl ?_;refine sC aw Fo ?_;refine sR Fo ?_;refine A0.bb (A0.ii fl (X:=Ap) (fun i q=>[(2,.box 2 0),(3,.box 3 0),(4,.box 4 0),(5,.box 5 0),(6,A9 j),(7,.box 7 0),(8,.d (.slice (B5 fl))),(9,A9 i)])
    (fun i q=>[(2,.cells ((Aj p).map .d)),(3,.cells (Jc s)),(4,z38),(5,.cells (Jc q)),(7,.cells (Rw x))])
    (fun i q=>Jn q ((fl.drop i).map (·.type))=Jn out (fl.map (·.type))∧q.Sm) out ⟨rfl,ho⟩ sS (by simp [ble,A7,Aj]) ?_ ?_)
   rotate_left
   ·intro i q v ae U L a8 a2 E;obtain⟨E,hq⟩:=E;have hv:=(b1 v U).type;have O:=A8p q hq _ hv;have a3:=A0u hq hv;rw [L,Cz] at E;unfold Jn at E;rw [Li] at E;generalize G9 q v.type=q2 at *;refine Ai a2 Fo fun K6 Z=>?_;refine gI Z ?_;clear Z K6;refine sK fun K6 Z=>?_;refine A0.bb ?_
    (refine lG Fo [] 6 [] fun K z=>?_;refine ev ?_;refine ci (E7 ae) ?_;refine cc O ?_;apply z;clear z K;try simp only [A4,Aa])
    refine Z _ _ ?_;clear Z K6;refine lT Fo ?_;exact⟨q2,⟨E,a3⟩,sS,by simp [ble,A7,Aj]⟩
   intro q E;obtain⟨E,hq⟩:=E;rw [D6,Hr] at E;rw [←E] at hT;refine Ai B4 Fo fun K6 Z=>?_;refine A0.ss rfl ?_;simp only [A4,Aa,Af];exact ac sS (by simp [ble,A7,Aj]) (key q hq hT)
 intro out hI;obtain⟨hI,_⟩:=hI;rw [D6,Tu] at hI;subst hI;refine Ai B4 Fo fun K2 u2=>?_;refine A0.ss rfl ?_;simp only [A4,Aa,Af];refine u1 _ _ ?_;refine sR Fo ?_;exact aR
abbrev Pf:Ap:=⟨[],[],false⟩
def Gn (p:Prog):Nat→Ap→Int→Ap × Bool
 | 0,_,_=>(Pf,false)
 |k+1,s,n=>if n=Eo s then (if Ud s=true then (Pf,false) else (s,true)) else if Ud s=true then (Pf,false) else Gn p k (Km p s) (Eo s)
def Hw (p:Prog):Ap × Bool:=Gn p 64 (Lq p Pf p.main []) (-1)
theorem C9h {α:Type} {cmp:α→α→Int} {x:α}:∀{l:List α} {done:Bool} {out R:List α},Fe cmp x l done out=some R→out.length+l.length≤R.length
 |[],done,out,R,h=>by rw [Fe] at h;cases h;cases done <;> simp
 |t::l,done,out,R,h=>by
  rw [Fe] at h;split at h
  ·cases h
  split at h <;> (have:=C9h h;simp at this ⊢;omega)
theorem D7k {α:Type} {cmp:α→α→Int} {x:α} (l:List α):l.length≤(I1 cmp l x).length:=by
 unfold I1;cases h:Fe cmp x l false [] with
 |none=>exact Cq _
 |some R=>have:=C9h h;simpa using this
theorem B3b (s:Ap)(x:Ty):Eo s≤Eo (G9 s x):=by
 unfold G9;split
 ·exact Cq _
 ·have:=D7k (cmp:=Dz) (x:=x) s.types;simp only [Eo];omega
theorem C8p (s:Ap)(x:Au):Eo s≤Eo (Gz s x):=by
 unfold Gz;split
 ·exact Cq _
 ·have:=D7k (cmp:=Bj) (x:=x) s.calls;simp only [Eo];omega
theorem B3c {α:Type} {f:Ap→α→Ap} (h:∀s a,Eo s≤Eo (f s a)):∀(l:List α)(s:Ap),Eo s≤Eo (l.foldl f s)
 |[],_=>Cq _
 |a::l,s=>Dk (h s a) (B3c h l _)
theorem E9d (p:Prog)(s:Ap)(e:Ex)(vars:List Param):Eo s≤Eo (Lq p s e vars):=by
 refine B3c (fun s e=>?_) _ _;have E:∀z,Eo s≤Eo (T6 s e z):=fun z=>by
  unfold T6;split
  ·exact Cq _
  ·exact Dk (show Eo s≤_ from B3b { s with D7:=s.D7 ||z.2.D7 } z.1) (C8p _ _)
 unfold Ju;split
 ·exact B3b _ _
 split
 ·split
  ·exact Cq _
  ·exact E _
 ·exact Cq _
theorem D4b (s:Ap)(l:List Ty):Eo s≤Eo (Jn s l):=B3c B3b _ _
theorem F2t (p:Prog)(s:Ap):Eo s≤Eo (Km p s):=by
 refine B3c (fun o x=>?_) _ _;have E:Eo o≤Eo (if Bz p x 1=true then Jn o ((C5 p x).map (·.type)) else o):=by
  split
  ·exact D4b _ _
  ·exact Cq _
 refine Dk E (B3c (fun o c=>?_) _ _);unfold Kh;split
 ·exact Cq _
 ·rename_i g _;refine Dk (Dk (D4b o (Y5 g c)) (B3b _ (Ym g c))) ?_;unfold Qe;split
  ·exact Cq _
  split
  ·exact Cq _
  ·exact E9d _ _ _ _
theorem C6e {s:Ap} (h:Ud s=false):Eo s≤60:=by unfold Ud at h;simp only [Wf,Vh] at h;omega
theorem D6h {p:Prog} (h:p.Fit):∀(k:Nat) {s:Ap} (n:Int),s.Sm→(Gn p k s n).1.Sm
 | 0,_,_,_=>⟨by simp [Gn],by simp [Gn]⟩
 |k+1,s,n,hs=>by
  have E:Ap.Sm Pf:=⟨by simp,by simp⟩;rw [Gn];split
  ·split
   ·exact E
   ·exact hs
  ·split
   ·exact E
   ·exact D6h h k _ (C7p h hs)
theorem D8b {p:Prog} (h:p.Fit):(Lq p Pf p.main []).Sm:=C0t (vars:=[]) ⟨h.sm,by simp,by simp,by simp,by simp⟩ _ ⟨by simp,by simp⟩ fun y E=>B2a (Q:=Ex.Sm) (fun e h x I=>h.kids.2 x I) _ h.sm.main y E
theorem D7t {p:Prog} (h:p.Fit):(Hw p).1.Sm:=D6h h _ _ (D8b h)
abbrev fiV (z:Ap × Bool):SV:=.tuple [Lj z.1,B0 z.2]
abbrev Qz:List Nat:=[0,1,2,3,4,5,14,16,24]
theorem F9g (p:Prog)(h:p.Fit)(L:p.Le)(V:∀d,d∈p.decls→d.kind=3→d.body.Gu)(a0:p.main.Gu):Ac prog 38 [Cv p] (fiV (Hw p)):=by
 have a5:=D8b h;have hN:=E2q p [] ⟨h.sm,by simp,by simp,by simp,by simp⟩ Pf ⟨by simp,by simp⟩ p.main h.sm.main a0 (by have:=L.main.list;unfold sm;omega);simp only [show B5 ([]:List Param)=[] from rfl] at hN;generalize hR:Hw p=R;unfold Hw at hR;generalize Lq p Pf p.main []=s0 at *;refine cB func38 ?_;refine sR Qz ?_;refine sC hN Qz ?_;refine kR Qz fun K1 u1=>?_;refine A0.bb (A0.loop (X:=Nat × Ap × Int) (fun z=>[(1,.box 1 0),(2,.box 2 0),(3,B0 false),(4,.box 4 0),(5,A9 z.2.2)]) (fun z=>[(1,.cells ((Aj p).map .d)),(2,z38),(4,.cells (Jc z.2.1))])
  (fun z=>Gn p z.1 z.2.1 z.2.2=R∧z.2.1.Sm∧z.2.2≤60∧(63:Int)≤z.1+z.2.2∧z.2.2≤Eo z.2.1) (fun z=>z.1) (64,s0,-1)
  ⟨hR,a5,by simp only;omega,by simp only;omega,by simp only;omega⟩ sS (by simp [ble,A7,Aj]) ?_)
 rintro⟨k,s,n⟩ ⟨E,hs,a1,a2,a4⟩;simp only at E hs a1 a2 a4 ⊢;have hz:=D0k s hs;have I:=E5f s hs;have a3:=G5u p h L V s hs;have W:=C7p h hs;have a8:=F2t p s;obtain⟨Z,rfl⟩:∃Z,k=Z+1:=⟨k - 1,by omega⟩;rw [Gn] at E;generalize a6:(Eo s:Nat)=zz at *;refine sK fun U u2=>?_;by_cases O:n=(zz:Int)
 ·rw [A8 O] at E;subst O;refine sC hz Qz ?_;refine A0.ss rfl ?_;simp only [A4,Aa,Af];refine u1 _ _ ?_;clear u1 K1 u2 U;refine sK fun K1 u1=>?_;cases J:Ud s with
  |true =>rw [J] at I E;rw [A8 rfl] at E;subst E;refine sC I Qz ?_;refine tI ?_;refine sR Qz ?_;exact aR
  |false =>rw [J] at I E;rw [A6 (by simp)] at E;subst E;refine sC I Qz ?_;refine kI u1 ?_;clear u1 K1;refine sR Qz ?_;exact aR
 ·rw [A6 O] at E
  (refine sV Qz fun K z=>?_;refine⟨_,.inl ⟨_,rfl,hz,rfl⟩,?_⟩;(try refine An O ?_);apply z;clear z K)
  refine gI u2 ?_;clear u2 U;refine A0.bb ?_;refine sK fun U u2=>?_;cases J:Ud s with
  |true =>rw [J] at I E;rw [A8 rfl] at E;subst E;refine sC I Qz ?_;refine tI ?_;refine sR Qz ?_;exact aR
  |false =>
   have a7:=C6e J;rw [J] at I E;rw [A6 (by simp)] at E;generalize Km p s=s2 at *;refine sC I Qz ?_;refine kI u2 ?_;clear u2 U;refine sC hz Qz ?_
   (refine lV Qz fun K z=>?_;refine cc a3 ?_;apply z;clear z K;try simp only [A4,Aa])
   exact⟨(Z,s2,(zz:Int)),⟨E,W,by simp only;omega,by simp only;omega,by simp only;omega⟩,by simp only;omega,sS,by simp [ble,A7,Aj]⟩
end Go.Abs
