/- what castingsref15.Head, castingsref16.Type, castingsref17.Program and infer compute -/
import Derived.Test.YtaneedhchnaniaaGreatDoorKS51
import Derived.Test.YtaneedhchnaniaaGreatDoorKAb7
import Derived.Test.YtaneedhchnaniaaGreatDoorKAb21
namespace Go.Abs
set_option linter.all false
open Go Go.Proofs Tryz
set_option maxRecDepth 100000
set_option maxHeartbeats 4000000
structure Dd where
 p:Prog
 strict:Bool
 env:List Ak
 vars:List Param
def ty0:Ty:=.mk [] [] 0
def Js (n:Int):Ty × Ey:=(ty0,Lr n)
def Rp (z:Ty × Ey):Ty × Ey:=if z.2.bad=false∧400 < z.1.count 0 then (ty0,⟨0,true,true⟩) else z
def Ld (c:Dd)(x:Ty):Bool:=decide (Ev c.env x < 0) && Bz c.p x 1
def A1r (c:Dd)(x:Ty):Bool:=decide (0≤Ev c.env x) ||Bz c.p x 2
def Up (c:Dd)(E:Ty)(e:Ex)(z:Ty × Ey):Ey:=if z.2.bad=false∧Dj c.p c.env z.1 E=false then Lr e.pos else z.2
def Ka (c:Dd):List Ty→List Ex→List (Ty × Ey)→Ey
 |w::J,e::E,z::I=>if (Up c w e z).bad=true then Up c w e z else Ka c J E I
 |_,_,_=>Nw
def P4 (c:Dd)(e:Ex)(x:Ty):Int ⊕ A5 :=
 match (Cb c.p c.env x)[(F8 (Cb c.p c.env x) e.name).toNat]? with
 |none=>.inl e.pos
 |some s=>if F8 (Cb c.p c.env x) e.name < 0∨s.A1.length≠e.targs.length then .inl e.pos else
  match Lz c.p c.env e.targs with
  |some q=>.inl q
  |none=>if 0≤Gt c.p c.env s.A1 e.targs then .inl ((e.targs[(Gt c.p c.env s.A1 e.targs).toNat]?).getD default).pos else
   if e.kids.length≠s.params.length+1 then .inl e.pos else .inr s
def W8 (s:A5)(a:List Ty):List Ty:=s.params.map fun f=>f.type.subst (Ad s.A1) a
def A5f (c:Dd)(e:Ex)(x:Ty)(E:List (Ty × Ey)):Ty × Ey:=match P4 c e x with
 |.inl q=>Js q
 |.inr s=>Rp (s.result.subst (Ad s.A1) e.targs,Ka c (W8 s e.targs) e.kids.tail E)
def Hn (l:List Param)(E:A3):Int:=Dy (fun f:Param=>decide (f.name=E)) l
def Zs (c:Dd)(e:Ex)(x:Ty)(r:Ey):Ty × Ey :=
 if Ld c x=false then Js e.pos else
 match (C5 c.p x)[(Hn (C5 c.p x) e.name).toNat]? with
 |some f=>if Hn (C5 c.p x) e.name < 0 then Js e.pos else Rp (f.type,r)
 |none=>Js e.pos
def Z0 (c:Dd)(x:Ty):Ty:=(Ck c.env x).getD x
def Qw (c:Dd)(x y:Ty):Bool:=A1r c x && (A1r c y ||Dj c.p c.env y (Z0 c x))
def B0i (c:Dd)(e:Ex)(x:Ty)(r:Ey):Ty × Ey:=match C0 c.p c.env e.type with
 |some q=>Js q
 |none=>if c.strict=true∧Qw c x e.type=false then Js e.pos else (e.type,r)
def A4a (c:Dd)(e:Ex):Ty × Ey:=match c.vars[(Hn c.vars e.name).toNat]? with
 |some f=>if Hn c.vars e.name < 0 then Js e.pos else (f.type,Nw)
 |none=>Js e.pos
def B2j (c:Dd)(e:Ex)(E:List (Ty × Ey)):Ty × Ey:=match C0 c.p c.env e.type with
 |some q=>Js q
 |none=>if Ld c e.type=false∨(C5 c.p e.type).length≠e.kids.length then Js e.pos else (e.type,Ka c ((C5 c.p e.type).map (·.type)) e.kids E)
def A2v (c:Dd)(e:Ex)(E:List (Ty × Ey)):Ty × Ey :=
 if e.kind=1 then A4a c e else if e.kind=3 then B2j c e E else
 if e.kind≠2∧e.kind≠4∧e.kind≠5 then Js e.pos else
 match E with
 |[]=>Js e.pos
 |z::E=>if z.2.bad=true then z else if e.kind=2 then A5f c e z.1 E else if e.kind=4 then Zs c e z.1 z.2 else B0i c e z.1 z.2
mutual
def Dg (c:Dd):Ex→Ty × Ey
 |.mk k n t a ks q=>A2v c (.mk k n t a ks q) (B1k c ks)
def B1k (c:Dd):List Ex→List (Ty × Ey)
 |[]=>[]
 |e::E=>Dg c e::B1k c E
end
theorem E2z (c:Dd):∀l,B1k c l=l.map (Dg c)
 |[]=>by rw [B1k];rfl
 |e::E=>by rw [B1k,E2z c E];rfl
theorem B4p (c:Dd)(e:Ex):Dg c e=A2v c e (e.kids.map (Dg c)):=by cases e with| mk k n t a ks q=>rw [Dg,E2z];rfl
abbrev TO:=Ty × Option Int
def J1 (n:Int):TO:=(ty0,some n)
def B1v (c:Dd)(E:Ty)(e:Ex)(z:TO):Option Int:=match z.2 with
 |some q=>some q
 |none=>if Dj c.p c.env z.1 E=true then none else some e.pos
def Tc (c:Dd):List Ty→List Ex→List TO→Option Int
 |w::J,e::I,z::E=>match B1v c w e z with
  |some q=>some q
  |none=>Tc c J I E
 |_,_,_=>none
def orI (o:Option Int)(t:Ty):TO:=match o with
 |some q=>J1 q
 |none=>(t,none)
def B9w (c:Dd)(e:Ex)(x:Ty)(E:List TO):TO:=match P4 c e x with
 |.inl q=>J1 q
 |.inr s=>orI (Tc c (W8 s e.targs) e.kids.tail E) (s.result.subst (Ad s.A1) e.targs)
def C3a (c:Dd)(e:Ex)(x:Ty):TO :=
 if Ld c x=false then J1 e.pos else
 match (C5 c.p x)[(Hn (C5 c.p x) e.name).toNat]? with
 |some f=>if Hn (C5 c.p x) e.name < 0 then J1 e.pos else (f.type,none)
 |none=>J1 e.pos
def C1e (c:Dd)(e:Ex)(x:Ty):TO:=match C0 c.p c.env e.type with
 |some q=>J1 q
 |none=>if c.strict=true∧Qw c x e.type=false then J1 e.pos else (e.type,none)
def C4e (c:Dd)(e:Ex):TO:=match c.vars[(Hn c.vars e.name).toNat]? with
 |some f=>if Hn c.vars e.name < 0 then J1 e.pos else (f.type,none)
 |none=>J1 e.pos
def C3e (c:Dd)(e:Ex)(E:List TO):TO:=match C0 c.p c.env e.type with
 |some q=>J1 q
 |none=>if Ld c e.type=false∨(C5 c.p e.type).length≠e.kids.length then J1 e.pos else orI (Tc c ((C5 c.p e.type).map (·.type)) e.kids E) e.type
def B6m (c:Dd)(e:Ex)(E:List TO):TO :=
 if e.kind=1 then C4e c e else if e.kind=3 then C3e c e E else
 if e.kind≠2∧e.kind≠4∧e.kind≠5 then J1 e.pos else
 match E with
 |[]=>J1 e.pos
 |z::E=>match z.2 with
  |some q=>J1 q
  |none=>if e.kind=2 then B9w c e z.1 E else if e.kind=4 then C3a c e z.1 else C1e c e z.1
mutual
def Em (c:Dd):Ex→TO
 |.mk k n t a ks q=>B6m c (.mk k n t a ks q) (B0a c ks)
def B0a (c:Dd):List Ex→List TO
 |[]=>[]
 |e::E=>Em c e::B0a c E
end
theorem C7n (c:Dd):∀l,B0a c l=l.map (Em c)
 |[]=>by rw [B0a];rfl
 |e::E=>by rw [B0a,C7n c E];rfl
theorem C6c (c:Dd)(e:Ex):Em c e=B6m c e (e.kids.map (Em c)):=by cases e with| mk k n t a ks q=>rw [Em,C7n];rfl
def B0f (a:Ty × Ey)(b:TO):Prop:=a.2.D7=true∧a.2.bad=true∨a.2.D7=false∧(a.2.bad=true∧b.2=some a.2.pos∨a.2.bad=false∧a.2.pos=0∧b=(a.1,none))
theorem B0f.no (n:Int):B0f (Js n) (J1 n):=.inr ⟨rfl,.inl ⟨rfl,rfl⟩⟩
variable {c:Dd}
theorem C0w :∀(J:List Ty)(I:List Ex)(E:List (Ty × Ey))(ys:List TO),E.length=ys.length→(∀(i:Nat)(z:Ty × Ey)(y:TO),E[i]? = some z→ys[i]? = some y→B0f z y) →
  (Ka c J I E).D7=true∧(Ka c J I E).bad=true∨(Ka c J I E).D7=false∧((Ka c J I E).bad=true∧Tc c J I ys=some (Ka c J I E).pos∨(Ka c J I E).bad=false∧(Ka c J I E).pos=0∧Tc c J I ys=none)
 |[],I,E,ys,_,_=>by cases I <;> cases E <;> cases ys <;> simp [Ka,Tc,Nw]
 |_::_,[],E,ys,_,_=>by cases E <;> cases ys <;> simp [Ka,Tc,Nw]
 |_::_,_::_,[],[],_,_=>by simp [Ka,Tc,Nw]
 |_::_,_::_,[],_::_,h,_=>by simp at h
 |_::_,_::_,_::_,[],h,_=>by simp at h
 |w::J,e::I,z::E,y::ys,V,h=>by
  have W:=h 0 z y rfl rfl;have Z:=C0w J I E ys (by simpa using V) fun i a b O L=>h (i+1) a b (by simpa using O) (by simpa using L);rw [Ka,Tc];unfold Up B1v;rcases W with ⟨O,L⟩| ⟨O,⟨L,U⟩| ⟨L,U,h4⟩⟩
  ·rw [L];simp [O,L]
  ·rw [L,U];simp [O,L]
  ·subst h4;cases R:Dj c.p c.env z.1 w with
   |false=>simp [L,R,Lr]
   |true=>simp only [L,R,Qv,Bool.true_eq_false,Et,Hh,Af];exact Z
theorem E9f (c:Dd):∀e:Ex,B0f (Dg c e) (Em c e):=by
 intro e
 induction e using Ex.induct with| _ e W=>?_
 rw [B4p,C6c];unfold A2v B6m;by_cases k1:e.kind=1
 ·rw [A8 k1,A8 k1];unfold A4a C4e;split
  ·split
   ·exact .no _
   ·exact .inr ⟨rfl,.inr ⟨rfl,rfl,rfl⟩⟩
  ·exact .no _
 rw [A6 k1,A6 k1];have Z:∀(l:List Ex),(∀x,x∈l→x∈e.kids)→∀(i:Nat) z y,(l.map (Dg c))[i]? = some z→(l.map (Em c))[i]? = some y→B0f z y:=by intro l hl i z y I E;rw [D3,Ij] at I E;obtain⟨a,V,rfl⟩:=I;obtain⟨b,hb,rfl⟩:=E;rw [V] at hb;cases hb;exact W a (hl a (Bx V))
 by_cases k3:e.kind=3
 ·rw [A8 k3,A8 k3];unfold B2j C3e;split
  ·exact .no _
  ·split
   ·exact .no _
   ·rcases C0w (c:=c) ((C5 c.p e.type).map (·.type)) e.kids _ _ (by simp) (Z e.kids fun _ h=>h) with ⟨I,E⟩| ⟨I,⟨E,J⟩| ⟨E,J,L⟩⟩
    ·exact .inl ⟨I,E⟩
    ·exact .inr ⟨I,.inl ⟨E,by rw [J];rfl⟩⟩
    ·exact .inr ⟨I,.inr ⟨E,J,by rw [L];rfl⟩⟩
 rw [A6 k3,A6 k3];by_cases k2:e.kind≠2∧e.kind≠4∧e.kind≠5
 ·rw [A8 k2,A8 k2];exact .no _
 rw [A6 k2,A6 k2];cases O:e.kids with
 |nil=>exact .no _
 |cons v vs =>
  simp only [Cz];have hv:=W v (by rw [O];simp);rcases hv with ⟨I,E⟩| ⟨I,⟨E,J⟩| ⟨E,J,L⟩⟩
  ·rw [A8 E];exact .inl ⟨I,E⟩
  ·rw [A8 E,J];exact .inr ⟨I,.inl ⟨E,rfl⟩⟩
  ·have hz:(Dg c v).2=Nw:=by
    cases hr:(Dg c v).2 with| mk a b d=>rw [hr] at I E J;simp only at I E J;rw [I,E,J];rfl
   rw [A6 (by rw [E];simp),L,hz];simp only;by_cases R:e.kind=2
   ·rw [A8 R,A8 R];unfold A5f B9w;split
    ·exact .no _
    ·rename_i s hs;rcases C0w (c:=c) (W8 s e.targs) e.kids.tail _ _ (by simp) (Z vs fun x hx=>by rw [O];simp [hx]) with ⟨I,E⟩| ⟨I,⟨E,J⟩| ⟨E,J,L⟩⟩
     ·unfold Rp;rw [A6 (by simp [E])];exact .inl ⟨I,E⟩
     ·unfold Rp;rw [A6 (by simp [E]),J];exact .inr ⟨I,.inl ⟨E,rfl⟩⟩
     ·rw [L];unfold Rp;split
      ·exact .inl ⟨rfl,rfl⟩
      ·exact .inr ⟨I,.inr ⟨E,J,rfl⟩⟩
   rw [A6 R,A6 R];by_cases U:e.kind=4
   ·rw [A8 U,A8 U];unfold Zs C3a;split
    ·exact .no _
    ·split
     ·split
      ·exact .no _
      ·unfold Rp;split
       ·exact .inl ⟨rfl,rfl⟩
       ·exact .inr ⟨rfl,.inr ⟨rfl,rfl,rfl⟩⟩
     ·exact .no _
   ·rw [A6 U,A6 U];unfold B0i C1e;split
    ·exact .no _
    ·split
     ·exact .no _
     ·exact .inr ⟨rfl,.inr ⟨rfl,rfl,rfl⟩⟩
variable {e:Ex}
theorem B9b (h:(Dg c e).2.bad=false):Em c e=((Dg c e).1,none):=by
 rcases E9f c e with ⟨_,E⟩| ⟨_,⟨E,_⟩| ⟨_,_,I⟩⟩
 ·rw [h] at E;cases E
 ·rw [h] at E;cases E
 ·exact I
def H0 (l:List A3):List Ty:=l.map fun v=>.mk v [] 0
def H2 (p:Prog)(d:Decl):List Ak:=((Fj p d.name).zip d.vars).map fun z=>⟨z.2,z.1.bound.subst (Ad (Fj p d.name)) (H0 d.vars),z.1.pos⟩
def Wg (p:Prog)(env:List Ak)(pre:List A3):List A5→Option Int
 |[]=>none
 |s::ss=>if s.name∈pre then some s.pos else match Mn p env s with
  |some q=>some q
  |none=>Wg p env (pre++[s.name]) ss
def B0u (p:Prog)(i:Nat)(d:Decl):Option Int :=
 if findD d.name p.decls 0≠(i:Int) then some d.pos else
 match Y4 p [] d.A1 with
 |some q=>some q
 |none=>if d.kind=1 then (match Tm p d.A1 [] d.fields with
   |some q=>some q
   |none=>if d.name∈A7o p d.name then some d.pos else none) else Wg p d.A1 [] d.sigs
def A0h (p:Prog)(pre:List A3):List A3→Bool
 |[]=>false
 |v::vs=>decide (kindOf p v≠0∨v∈pre) ||A0h p (pre++[v]) vs
def C7i (d:Decl):Option Int→Option Int
 |some q=>some q
 |none=>(d.sig.params.find? fun f=>decide (f.name=d.recv)).map (·.pos)
def B0o (p:Prog)(i:Nat)(d:Decl):Option Int :=
 if kindOf p d.name≠1∨d.vars.length≠(Fj p d.name).length then some d.pos else
 if A0h p [] d.vars=true then some d.pos else
 if Mf p d.name d.sig.name≠(i:Int) then some d.pos else
 C7i d (Mn p (H2 p d) d.sig)
def Wb (p:Prog)(i:Nat)(d:Decl):Option Int:=if d.kind=1∨d.kind=2 then B0u p i d else if d.kind=3 then B0o p i d else some d.pos
def A7s (d:Decl):Ty:=.mk d.name (H0 d.vars) 0
def Mu (p:Prog)(st:Bool)(d:Decl):Dd:=⟨p,st,H2 p d++d.sig.A1,⟨d.recv,A7s d,0⟩::d.sig.params⟩
def A0n (p:Prog)(st:Bool)(d:Decl):Ey:=if d.kind=3 then Up (Mu p st d) d.sig.result d.body (Dg (Mu p st d) d.body) else Nw
def Zr (p:Prog)(st:Bool):List Decl→Nat→Ey
 |[],_=>(Dg ⟨p,st,[],[]⟩ p.main).2
 |d::ds,i=>match Wb p i d with
  |some q=>Lr q
  |none=>if (A0n p st d).bad=true then A0n p st d else Zr p st ds (i+1)
def A4o (p:Prog)(st:Bool):Ey:=Zr p st p.decls 0
theorem C9e {p:Prog} {st:Bool} :∀{l:List Decl} {i:Nat},(Zr p st l i).bad=false→∀(k:Nat)(d:Decl),l[k]? = some d→Wb p (i+k) d=none∧(A0n p st d).bad=false
 |[],_,_=>by simp
 |x::l,i,h=>by
  intro k d E;rw [Zr] at h;cases J:Wb p i x with
  |some q=>rw [J] at h;cases h
  |none =>
   rw [J] at h;simp only at h;split at h
   ·rename_i I;rw [h] at I;cases I
   ·rename_i I;cases k with
    |zero=>simp only [Iz,Av] at E;subst E;exact⟨J,by simpa using I⟩
    |succ k =>rw [Ny] at E;have:=C9e h k d E;rw [show i+1+k=i+(k+1) by omega] at this;exact this
abbrev P8:List Nat:=[0,1,2,3,4,5,6,7,8,9,18,39]
theorem E2r (p:Prog)(h:p.Sm)(d:Decl)(hd:d.Sm):Cd prog 225 [Cv p,Iy d] [] (.acc 8) [(8,.rows 5 (Az (H2 p d)))]:=by
 have U:=B9d h d.name;have hf:=B6s p d.name;have a1:=To (Fj p d.name) U.1;have a5:=hd.vars.1;have a0:∀u,u∈H0 d.vars→u.Sm:=by intro u hu;obtain⟨v,hv,rfl⟩:=Ax.1 hu;exact .mk _ _ _ (hd.vars.2 v hv) (by simp) (by simp)
 unfold H2;generalize hL:Fj p d.name=L at *;refine bB func225 ?_;refine sR P8 ?_
 (refine A0.zz 2 rfl rfl ?_;refine A0.zz 3 rfl rfl (wk [(2,.Ag (Aj p) 0),(3,.Ag (Bc d) 0),(4,.d .nil)] [] ?_))
 refine sC hf P8 ?_;refine sR P8 ?_;refine A0.pp 6 3 6 rfl ?_;refine kR P8 fun K1 u1=>?_;refine A0.bb (A0.ii d.vars (X:=Unit) (fun j _=>[(3,.Ag (Bc d) 0),(5,.d (.slice (Az L))),(6,.acc 6),(7,A9 j)]) (fun j _=>[(6,.rows 3 (Aq (H0 (d.vars.take j))))])
  (fun j _=>True) () trivial (by simp [sle,Aw,Ae,Bc]) (by simp [ble,A7,Cc,H0]) ?_ ?_)
 rotate_left
 ·intro j _ s hs J dp tk Z _;rw [tk];refine Ai Z P8 fun E u2=>?_;refine gI u2 ?_;clear u2 E;refine sK fun E u2=>?_;refine A0.bb ?_
  (refine lV P8 fun K z=>?_;refine ci (La hs) ?_;refine⟨by simp,by simp only [H0,B6,Cw];unfold lim sm at *;omega,?_⟩;(try refine ev ?_);apply z;clear z K;try simp only [A4,Aa])
  refine u2 _ _ ?_;clear u2 E;refine lT P8 ?_;exact⟨(),trivial,(by simp [sle,Aw,Ae,Bc]),by simp [ble,A7,Cc,H0,Bh,Ty.name,Ty.args,Ty.pos]⟩
 intro _ _;rw [Cs];refine Ai B4 P8 fun E u2=>?_;refine A0.ss rfl ?_;simp only [A4,Aa,Af];refine u1 _ _ ?_;clear u2 E u1 K1
 (refine A0.Kx 6 rfl (wk [(3,.Ag (Bc d) 0),(5,.d (.slice (Az L))),(6,.d (.slice (Aq (H0 d.vars))))] [] ?_))
 refine sR P8 ?_;refine A0.pp 8 5 8 rfl ?_;refine kR P8 fun K1 u1=>?_;have V:∀z,z∈L.zip d.vars→Ac prog 167 [Be z.1.bound,Ct (L.map (·.name)),Cg (H0 d.vars)] (Be (z.1.bound.subst (Ad L) (H0 d.vars))):=fun z O =>Ur (L.map (·.name)) (H0 d.vars) a0 z.1.bound (U.2 z.1 (Av6 O).1).bound
 refine A0.bb (A0.ii (L.zip d.vars) (X:=Unit) (fun j _=>[(3,.Ag (Bc d) 0),(5,.d (.slice (Az L))),(6,.d (.slice (Aq (H0 d.vars)))),(8,.acc 8),(9,A9 j)])
  (fun j _=>[(8,.rows 5 (Az (((L.zip d.vars).take j).map fun z=>⟨z.2,z.1.bound.subst (Ad L) (H0 d.vars),z.1.pos⟩)))])
  (fun j _=>True) () trivial (by simp [sle,Aw,Ae,Bc]) (by simp [ble,A7,Az]) ?_ ?_)
 rotate_left
 ·intro j _ z O J dp tk Z _;obtain⟨f,v⟩:=z;rw [Ak6] at O;have a3:=(Ay.1 O.1).1;have a2:=(Ay.1 O.2).1;have I:(j:Int) < (L.length:Int):=by omega
  have R:(j:Int) < ((H0 d.vars).length:Int):=by simp only [H0,B6];omega
  have hs:=V (f,v) J;simp only at hs;have a4:(L.zip d.vars).length≤sm:=by rw [Aq9];omega
  rw [tk];refine Wc I R P8 fun E u2=>?_;refine gI u2 ?_;clear u2 E;refine sK fun E u2=>?_;refine A0.bb ?_
  (refine lG P8 [] 22 [] fun K z=>?_;refine ev ?_;refine ci (La O.2) ?_;refine ci (Ep O.1) ?_;refine cc a1 ?_;refine cc hs ?_;refine ci (Ep O.1) ?_;refine⟨by simp,by simp only [B6,Cw];unfold lim sm at *;omega,?_⟩;(try refine ev ?_);apply z;clear z K;try simp only [A4,Aa])
  refine u2 _ _ ?_;clear u2 E;refine lT P8 ?_;exact⟨(),trivial,(by simp [sle,Aw,Ae,Bc]),by simp [ble,A7,Az,Ke]⟩
 intro _ _;rw [Cs];have W:∀sl bx,sle sl [(8,.acc 8)]→ble bx [(8,.rows 5 (Az ((L.zip d.vars).map fun z=>⟨z.2,z.1.bound.subst (Ad L) (H0 d.vars),z.1.pos⟩)))]→K1 sl bx:=by intro sl bx h1 h2;refine u1 _ _ (A0.ww h1 h2 ?_);clear u1 K1;refine sR P8 ?_;exact A0.ret ⟨_,by rw [results225];rfl,.inl rfl,by simp [ble,A7]⟩
 refine sK fun E u2=>?_;by_cases I:L.length≤d.vars.length
 ·have e:(L.zip d.vars).length=L.length:=by rw [Aq9];omega
  rw [e];refine Ah B4 P8 ?_;refine A0.ss rfl ?_;simp only [A4,Aa,Af];exact W _ _ sS sB
 ·have e:(L.zip d.vars).length=d.vars.length:=by rw [Aq9];omega
  rw [e];have I:(d.vars.length:Int) < (L.length:Int):=by omega
  have R:¬(d.vars.length:Int) < ((H0 d.vars).length:Int):=by simp [H0]
  refine En I R P8 ?_;refine A0.ss rfl ?_;simp only [A4,Aa,Af];exact W _ _ sS sB
theorem F4r (p:Prog)(h:p.Sm)(d:Decl)(hd:d.Sm):Ac prog 225 [Cv p,Iy d] (.d (.slice (Az (H2 p d)))):=(E2r p h d hd).pub
abbrev rsC (r:Ey):Ar:=.cells [.d (.int .i64 r.pos),.d (.bool r.bad),.d (.bool r.D7)]
abbrev E9:List Nat:=[0,1,2,4,5,6,7,8,19,34,52,58,69,79]
set_option maxHeartbeats 4000000 in
theorem E7d (p:Prog)(h:p.Sm)(a6:p.decls.length≤100000)(i:Nat)(d:Decl)(hd:p.decls[i]? = some d)(hk:d.kind=1∨d.kind=2)(a4:∀s,s∈d.sigs→d.A1.length+s.A1.length≤sm) :
  Ac prog 145 [Cv p,A9 i] (Kv (Hs (B0u p i d))):=by
 have J:=h.decls.2 d (Bx hd);have a0:=A5t p d.name;have R:=D1e p h [] d.A1 (by simpa using J.A1.1) (by simp) J.A1.2;have O:=D4u p h d.A1 J.A1.1 J.A1.2 d.fields J.fields.1 J.fields.2;have a2:=F7i p a6 d.name;have I:=A5p (A7o p d.name) d.name;unfold B0u;refine cB func145 ?_;refine sR E9 ?_
 (refine sV E9 fun K z=>?_;refine ci (E2 hd) ?_;apply z;clear z K)
 (refine A0.zz 2 rfl rfl ?_;refine A0.zz 5 rfl rfl (wk [(1,A9 i),(2,.Ag (Aj p) 0),(4,.box 4 0),(5,.Ag (Bc d) 0)] [(4,I8)] ?_))
 by_cases h0:findD d.name p.decls 0=(i:Int);rotate_left
 ·rw [A8 h0];refine sK fun E u1=>?_
  (refine sV E9 fun K z=>?_;refine⟨_,.inl ⟨_,rfl,a0,rfl⟩,?_⟩;(try refine An h0 ?_);apply z;clear z K)
  refine tI ?_;refine sR E9 ?_;exact aR
 rw [A6 fun hh=>hh h0];rw [h0] at a0;refine kC a0 E9 fun E u1=>?_;refine kI u1 ?_;clear u1 E;cases hf:Y4 p [] d.A1 with
 |some q =>
  rw [hf] at R;simp only [Kv,Hs,Lr] at R;refine sC R E9 ?_;refine kR E9 fun E u1=>?_;refine A0.ff rfl (A0.kk (u1 _ _ ?_));clear u1 E;refine sK fun E u1=>?_;rcases hk with k1| k2
  ·refine Ah k1 E9 ?_;refine tI ?_;refine sR E9 ?_;exact aR
  ·have k1:¬d.kind=1:=by omega
   refine Ah k1 E9 ?_;refine kI u1 ?_;clear u1 E;refine sR E9 ?_;refine kR E9 fun E u1=>?_;refine A0.bb (A0.loop (X:=Unit) (fun _=>[(1,A9 i),(2,.Ag (Aj p) 0),(4,.box 4 0),(5,.Ag (Bc d) 0),(6,.box 6 0),(8,A9 0)]) (fun _=>[(4,I8),(6,rsC (Lr q))]) (fun _=>True) (fun _=>0) () trivial (by simp [sle,Aw,Ae,Bc,Aj]) (by simp [ble,A7,Lr]) ?_);intro _ _;refine sK fun K2 u2=>?_;by_cases hl:(0:Int) < (d.sigs.length:Int)
   ·refine Ah hl E9 ?_;refine A0.ss rfl ?_;simp only [A4,Aa,Af];refine u1 _ _ ?_;refine sR E9 ?_;exact aR
   ·refine Ah hl E9 ?_;refine A0.ss rfl ?_;simp only [A4,Aa,Af];refine u1 _ _ ?_;refine sR E9 ?_;exact aR
 |none =>
  rw [hf] at R;simp only [Kv,Hs,Nw] at R;simp only;refine sC R E9 ?_;by_cases k1:d.kind=1
  ·rw [A8 k1];cases hp:Tm p d.A1 [] d.fields with
   |some q =>rw [hp] at O;simp only [Kv,Hs,Lr] at O;refine Ai k1 E9 fun E u1=>?_;refine A0.tt rfl ?_;refine sC O E9 ?_;refine dR E9 10 ?_;refine A0.ff rfl (A0.kk ?_);simp only [A4,];refine u1 _ _ ?_;clear u1 E;refine kR E9 fun E u1=>?_;refine tI ?_;refine sR E9 ?_;exact aR
   |none =>
    rw [hp] at O;simp only [Kv,Hs,Nw] at O;simp only;by_cases U:d.name∈A7o p d.name
    ·rw [A8 U];rw [Bn U] at I;refine Ai k1 E9 fun E u1=>?_;refine A0.tt rfl ?_;refine sC O E9 ?_
     (refine sG E9 [] 10 [] fun K z=>?_;refine ev ?_;refine cc a2 ?_;refine cc I ?_;apply z;clear z K)
     refine A0.tt rfl ?_
     (refine lV E9 fun K z=>?_;apply z;clear z K;try simp only [A4,])
     refine u1 _ _ ?_;clear u1 E;refine kR E9 fun E u1=>?_;refine tI ?_;refine sR E9 ?_;exact aR
    ·rw [A6 U];rw [Ci U] at I;refine Ai k1 E9 fun E u1=>?_;refine A0.tt rfl ?_;refine sC O E9 ?_
     (refine sG E9 [] 10 [] fun K z=>?_;refine ev ?_;refine cc a2 ?_;refine cc I ?_;apply z;clear z K)
     refine A0.ff rfl (A0.kk ?_);simp only [A4,];refine u1 _ _ ?_;clear u1 E;refine kR E9 fun E u1=>?_;refine tI ?_;refine sR E9 ?_;exact aR
  rw [A6 k1];refine Ai k1 E9 fun E u1=>?_;refine A0.ff rfl (A0.kk (u1 _ _ ?_));clear u1 E;refine Ai k1 E9 fun E u1=>?_;refine kI u1 ?_;clear u1 E;refine sR E9 ?_;refine A0.pp 7 1 7 rfl ?_;refine kR E9 fun E u1=>?_;have a1:∀(r:Ey),r=Hs (Wg p d.A1 [] d.sigs)→∀sl bx,sle sl [(4,.box 4 0),(6,.box 6 0)]→ble bx [(4,I8),(6,rsC r)]→E sl bx:=by intro r hr sl bx h1 h2;refine u1 _ _ (A0.ww h1 h2 ?_);clear u1 E;refine sR E9 ?_;rw [←hr];exact aR
  refine A0.bb (A0.loop (X:=Nat × Option Int) (fun x=>[(1,A9 i),(2,.Ag (Aj p) 0),(4,.box 4 0),(5,.Ag (Bc d) 0),(6,.box 6 0),(7,.acc 7),(8,A9 x.1)]) (fun x=>[(4,I8),(6,rsC (Hs x.2)),(7,.rows 1 (C6 ((d.sigs.take x.1).map (·.name))))])
   (fun x=>x.1≤d.sigs.length∧(match x.2 with| some q=>Wg p d.A1 [] d.sigs=some q| none=>Wg p d.A1 ((d.sigs.take x.1).map (·.name)) (d.sigs.drop x.1)=Wg p d.A1 [] d.sigs))
   (fun x=>d.sigs.length - x.1) (0,none) ⟨by simp,by simp⟩ (by simp [sle,Aw,Ae,Bc,Aj]) (by simp [ble,A7,C6,Hs,Nw]) ?_)
  rintro⟨j,o⟩ ⟨hj,L⟩;simp only at hj L;by_cases V:j < d.sigs.length
  ·have Z:(j:Int) < (d.sigs.length:Int):=by omega
   cases o with
   |some q =>simp only at L;refine Ai Z E9 fun K2 u2=>?_;refine A0.ss rfl ?_;simp only [A4,Aa,Af];exact a1 (Lr q) (by rw [L];rfl) _ _ sS (by simp [ble,A7,Hs])
   |none =>
    simp only at L;have hs:d.sigs[j]? = some d.sigs[j]:=Ba V;have W:d.sigs[j]∈d.sigs:=F7 V;have dp:d.sigs.drop j=d.sigs[j]::d.sigs.drop (j+1):=Fy V;have tk:d.sigs.take (j+1)=d.sigs.take j++[d.sigs[j]]:=L5 V;have a5:=C6s p h d.A1 d.sigs[j] (a4 _ W) J.A1.2 (J.sigs.2 _ W);have a7:=J.sigs.1;generalize d.sigs[j]=s at *;rw [dp,Wg] at L;have I:=A5p ((d.sigs.take j).map (·.name)) s.name;refine Ai Z E9 fun K2 u2=>?_;refine gI u2 ?_;clear u2 K2;refine sK fun K2 u2=>?_;refine A0.bb ?_;refine sK fun K3 u3=>?_;by_cases U:s.name∈(d.sigs.take j).map (·.name)
    ·rw [A8 U] at L;rw [←L];rw [Bn U] at I
     (refine sV E9 fun K z=>?_;refine ci (E1 hs) ?_;refine⟨_,.inr ⟨_,rfl,I,rfl⟩,?_⟩;(try refine ev ?_);apply z;clear z K)
     refine tI ?_
     (refine sV E9 fun K z=>?_;refine ci (E1 hs) ?_;apply z;clear z K)
     exact aR
    rw [A6 U] at L;rw [Ci U] at I
    (refine sV E9 fun K z=>?_;refine ci (E1 hs) ?_;refine⟨_,.inr ⟨_,rfl,I,rfl⟩,?_⟩;(try refine ev ?_);apply z;clear z K)
    refine kI u3 ?_;clear u3 K3
    (refine sV E9 fun K z=>?_;refine ci (E1 hs) ?_;refine⟨by simp,by simp only [B6,Cw];unfold lim sm at *;omega,?_⟩;(try refine ev ?_);apply z;clear z K)
    (refine lG E9 [] 8 [] fun K z=>?_;refine ev ?_;refine ci (E1 hs) ?_;refine cc a5 ?_;apply z;clear z K;try simp only [A4,Aa])
    refine u2 _ _ ?_;clear u2 K2;refine lT E9 ?_;refine⟨(j+1,Mn p d.A1 s),⟨by omega,?_⟩,by simp only;omega,(by simp [sle,Aw,Ae,Bc,Aj]),?_⟩
    ·simp only;cases hq:Mn p d.A1 s with
     |some q=>rw [hq] at L;exact L.symm
     |none=>rw [hq] at L;simp only;rw [tk,Fz];exact L
    ·simp only;rw [tk,Fz];cases Mn p d.A1 s <;> simp [ble,A7,C6,Hs,Nw,Lr]
  ·have a3:j=d.sigs.length:=by omega
   subst a3;refine sK fun K2 u2=>?_;cases o with
   |some q =>simp only at L;refine Ah B4 E9 ?_;refine A0.ss rfl ?_;simp only [A4,Aa,Af];exact a1 (Lr q) (by rw [L];rfl) _ _ sS (by simp [ble,A7,Hs])
   |none =>simp only at L;rw [D6,Wg] at L;refine Ah B4 E9 ?_;refine A0.ss rfl ?_;simp only [A4,Aa,Af];exact a1 Nw (by rw [←L];rfl) _ _ sS (by simp [ble,A7,Hs])
theorem D6i {d:Decl} (hd:d.Sm):∀u,u∈H0 d.vars→u.Sm:=by intro u I;obtain⟨v,E,rfl⟩:=Ax.1 I;exact .mk _ _ _ (hd.vars.2 v E) (by simp) (by simp)
theorem D5i {p:Prog} (h:p.Sm) {d:Decl} (hd:d.Sm):∀f,f∈H2 p d→f.Sm:=by intro f I;unfold H2 at I;obtain⟨⟨l,v⟩,E,rfl⟩:=Ax.1 I;have J:=(B9d h d.name).2 l (Av6 E).1;exact⟨hd.vars.2 v (Av6 E).2,J.bound.subst (D6i hd)⟩
theorem C2v (p:Prog)(d:Decl):(H2 p d).length≤d.vars.length:=by unfold H2;rw [B6,Aq9];omega
abbrev Hb:List Nat:=[0,1,2,4,5,6,7,8,9,33,39,61,71,90,102]
set_option maxHeartbeats 4000000 in
theorem G5y (p:Prog)(h:p.Sm)(i:Nat)(d:Decl)(hd:p.decls[i]? = some d)(ac:d.vars.length+d.sig.A1.length≤sm) :
  Ac prog 146 [Cv p,A9 i] (Kv (Hs (B0o p i d))):=by
 have J:=h.decls.2 d (Bx hd);have a6:=A4y p d.name;have a8:=B6s p d.name;have a5:=D0i p h.decls.1 d.name d.sig.name;have a7:=F4r p h d J;have ae:=C2v p d;have a':=C6s p h (H2 p d) d.sig (by omega) (D5i h J) J.sig;have ad:=J.vars.1;unfold B0o;generalize H2 p d=ev at *;generalize Fj p d.name=L at *;refine cB func146 ?_;refine sR Hb ?_
 (refine sV Hb fun K z=>?_;refine ci (E2 hd) ?_;apply z;clear z K)
 refine sR Hb ?_
 (refine A0.zz 2 rfl rfl ?_;refine A0.zz 5 rfl rfl (wk [(1,A9 i),(2,.Ag (Aj p) 0),(4,.box 4 0),(5,.Ag (Bc d) 0),(6,.box 6 0)] [(4,I8),(6,rsC (Lr d.pos))] ?_))
 refine sK fun W u1=>?_;by_cases a1:kindOf p d.name=1;rotate_left
 ·rw [A8 (.inl a1)]
  (refine sG Hb [] 14 [] fun K z=>?_;refine Go.Abs.ev ?_;refine⟨_,.inl ⟨_,rfl,a6,rfl⟩,?_⟩;(try refine Go.Abs.An a1 ?_);apply z;clear z K)
  refine tI ?_;refine sR Hb ?_;exact aR
 by_cases a2:d.vars.length=L.length;rotate_left
 ·rw [A8 (.inr a2)];have O:¬(d.vars.length:Int)=(L.length:Int):=by omega
  (refine sG Hb [] 14 [] fun K z=>?_;refine Go.Abs.ev ?_;refine⟨_,.inl ⟨_,rfl,a6,rfl⟩,?_⟩;(try refine Go.Abs.An a1 ?_);refine⟨_,.inl ⟨_,rfl,a8,rfl⟩,?_⟩;(try refine Go.Abs.An O ?_);apply z;clear z K)
  refine tI ?_;refine sR Hb ?_;exact aR
 rw [A6 (by rintro (hh| hh);exact hh a1;exact hh a2)] at u1 ⊢;have O:(d.vars.length:Int)=(L.length:Int):=by omega
 (refine sG Hb [] 14 [] fun K z=>?_;refine Go.Abs.ev ?_;refine⟨_,.inl ⟨_,rfl,a6,rfl⟩,?_⟩;(try refine Go.Abs.Gj a1 O ?_);refine cc a8 ?_;apply z;clear z K)
 refine kI u1 ?_;clear u1 W a1 a2 O;refine kR Hb fun W u1=>?_;refine A0.bb (A0.ii d.vars (X:=Unit) (fun j _=>[(1,A9 i),(2,.Ag (Aj p) 0),(4,.box 4 0),(5,.Ag (Bc d) 0),(6,.box 6 0),(7,A9 j)]) (fun _ _=>[(4,I8),(6,rsC (Lr d.pos))])
  (fun j _=>A0h p (d.vars.take j) (d.vars.drop j)=A0h p [] d.vars) () (by simp) (by simp [sle,Aw,Ae,Bc,Aj]) (by simp [ble,A7,Lr]) ?_ ?_)
 rotate_left
 ·intro j _ s hs aa dp tk V E;rw [dp,A0h] at E;have a4:=A4y p s;have U:Ac prog 220 [.d (.slice ((C6 d.vars).take j)),C8 s] (B0 (decide (s∈d.vars.take j))):=by
   rw [C6,←List.map_take];exact A5p (d.vars.take j) s
  refine Ai V Hb fun I u2=>?_;refine gI u2 ?_;clear u2 I;refine sK fun I u2=>?_;refine A0.bb ?_;by_cases b1:kindOf p s=0;rotate_left
  ·rw [Bn (.inl b1),Tp] at E;rw [A8 E.symm]
   (refine sG Hb [] 18 [] fun K z=>?_;refine Go.Abs.ev ?_;refine ci (La hs) ?_;refine⟨_,.inl ⟨_,rfl,a4,rfl⟩,?_⟩;(try refine Go.Abs.An b1 ?_);apply z;clear z K)
   refine A0.tt rfl ?_;refine sR Hb ?_;exact aR
  by_cases b2:s∈d.vars.take j
  ·rw [Bn (.inr b2),Tp] at E;rw [A8 E.symm];rw [Bn b2] at U
   (refine sG Hb [] 18 [] fun K z=>?_;refine Go.Abs.ev ?_;refine ci (La hs) ?_;refine⟨_,.inl ⟨_,rfl,a4,rfl⟩,?_⟩;(try refine Go.Abs.An b1 ?_);refine⟨A4g _,by omega,by omega,?_⟩;(try refine Go.Abs.An b1 ?_);refine ci (La hs) ?_;refine cc U ?_;apply z;clear z K)
   refine A0.tt rfl ?_;refine sR Hb ?_;exact aR
  rw [Ci (by rintro (hh| hh);exact hh b1;exact b2 hh),V1] at E;rw [Ci b2] at U
  (refine sG Hb [] 18 [] fun K z=>?_;refine Go.Abs.ev ?_;refine ci (La hs) ?_;refine⟨_,.inl ⟨_,rfl,a4,rfl⟩,?_⟩;(try refine Go.Abs.An b1 ?_);refine⟨A4g _,by omega,by omega,?_⟩;(try refine Go.Abs.An b1 ?_);refine ci (La hs) ?_;refine cc U ?_;apply z;clear z K)
  refine A0.ff rfl (A0.kk (u2 _ _ ?_));clear u2 I;refine lT Hb ?_;exact⟨(),by rw [tk];exact E,(by simp [sle,Aw,Ae,Bc,Aj]),(by simp [ble,A7,Lr])⟩
 intro _ E;rw [D6,A0h] at E;rw [←E,A6 (by decide)] at u1 ⊢;clear E;refine Ai B4 Hb fun I u2=>?_;refine A0.ss rfl ?_;simp only [A4,Aa,Af];refine u1 _ _ ?_;clear u2 I u1 W;refine sK fun W u1=>?_;by_cases a3:Mf p d.name d.sig.name=(i:Int);rotate_left
 ·rw [A8 a3]
  (refine sV Hb fun K z=>?_;refine⟨_,.inl ⟨_,rfl,a5,rfl⟩,?_⟩;(try refine Go.Abs.An a3 ?_);apply z;clear z K)
  refine tI ?_;refine sR Hb ?_;exact aR
 rw [A6 fun hh=>hh a3] at u1 ⊢;rw [a3] at a5;refine sC a5 Hb ?_;refine kI u1 ?_;clear u1 W;generalize hq:Mn p ev d.sig=o at *;generalize hR:C7i d o=R at *
 (refine sG Hb [] 8 [⟨[],[],[8],[8]⟩,⟨[],[],[8],[8]⟩,⟨[],[],[8],[8]⟩,⟨[],[],[8],[8]⟩,⟨[],[],[8],[8]⟩,⟨[],[],[8],[8]⟩,⟨[],[],[8],[8]⟩,⟨[8],[8],[],[]⟩] fun K z=>?_;refine Go.Abs.ev ?_;refine cc a7 ?_;refine cc a' ?_;apply z;clear z K)
 refine kR Hb fun W u1=>?_;have a0:∀(r:Ey),r=Hs R→∀sl bx,sle sl [(4,.box 4 0),(8,.box 8 0)]→ble bx [(4,I8),(8,rsC r)]→W sl bx:=by intro r hr sl bx h1 h2;refine u1 _ _ (A0.ww h1 h2 ?_);clear u1 W;refine sR Hb ?_;rw [←hr];exact aR
 refine A0.bb (A0.loop (X:=Nat × Option Int) (fun x=>[(1,A9 i),(2,.Ag (Aj p) 0),(4,.box 4 0),(5,.Ag (Bc d) 0),(8,.box 8 0),(9,A9 x.1)]) (fun x=>[(4,I8),(8,rsC (Hs x.2))])
  (fun x=>x.1≤d.sig.params.length∧(match x.2 with| some q=>R=some q| none=>R=((d.sig.params.drop x.1).find? fun f=>decide (f.name=d.recv)).map (·.pos)))
  (fun x=>d.sig.params.length - x.1) (0,o) ⟨by simp,by cases o <;> exact hR.symm⟩ (by simp [sle,Aw,Ae,Bc,Aj]) (by simp [ble,A7,Hs]) ?_)
 rintro⟨j,o⟩ ⟨hj,E⟩;simp only at hj E;by_cases V:j < d.sig.params.length
 ·have Z:(j:Int) < (d.sig.params.length:Int):=by omega
  cases o with
  |some q =>simp only at E;refine Ai Z Hb fun I u2=>?_;refine A0.ss rfl ?_;simp only [A4,Aa,Af];exact a0 (Lr q) (by rw [E];rfl) _ _ sS (by simp [ble,A7,Hs])
  |none =>
   simp only at E;have hs:d.sig.params[j]? = some d.sig.params[j]:=Ba V;have dp:d.sig.params.drop j=d.sig.params[j]::d.sig.params.drop (j+1):=Fy V;have ab:=J.sig.params.1;generalize d.sig.params[j]=s at *;rw [dp,Av3] at E;refine Ai Z Hb fun I u2=>?_;refine gI u2 ?_;clear u2 I;refine sK fun I u2=>?_;refine A0.bb ?_;by_cases hm:s.name=d.recv
   ·rw [Bn hm] at E
    (refine sG Hb [] 9 [] fun K z=>?_;refine Go.Abs.ev ?_;refine⟨by omega,_,E7 hs,rfl,?_⟩;(try refine Go.Abs.An hm ?_);apply z;clear z K)
    refine A0.tt rfl ?_
    (refine lV Hb fun K z=>?_;refine ci (E7 hs) ?_;apply z;clear z K;try simp only [A4,Aa])
    refine u2 _ _ ?_;clear u2 I;refine lT Hb ?_;exact⟨(j+1,some s.pos),⟨by omega,by simpa using E⟩,by simp only;omega,(by simp [sle,Aw,Ae,Bc,Aj]),by simp [ble,A7,Hs,Lr]⟩
   ·rw [Ci hm] at E
    (refine sG Hb [] 9 [] fun K z=>?_;refine Go.Abs.ev ?_;refine⟨by omega,_,E7 hs,rfl,?_⟩;(try refine Go.Abs.An hm ?_);apply z;clear z K)
    refine A0.ff rfl (A0.kk (u2 _ _ ?_));clear u2 I;refine lT Hb ?_;exact⟨(j+1,none),⟨by omega,E⟩,by simp only;omega,(by simp [sle,Aw,Ae,Bc,Aj]),by simp [ble,A7,Hs]⟩
 ·have a9:j=d.sig.params.length:=by omega
  subst a9;refine Ai B4 Hb fun I u2=>?_;refine A0.ss rfl ?_;simp only [A4,Aa,Af];cases o with
  |some q =>simp only at E;exact a0 (Lr q) (by rw [E];rfl) _ _ sS (by simp [ble,A7,Hs])
  |none =>simp only at E;rw [D6] at E;exact a0 Nw (by rw [E];rfl) _ _ sS (by simp [ble,A7,Hs])
structure Decl.Two (d:Decl):Prop where
 sigs:∀s,s∈d.sigs→d.A1.length+s.A1.length≤sm
 sig:d.vars.length+d.sig.A1.length≤sm
theorem Decl.Nn.two {d:Decl} (h:d.Nn):d.Two:=⟨fun s hs=>by have:=(h.sigs s hs).B6t;have:=h.B6t;unfold sm;omega,by have:=h.sig.B6t;have:=h.E8e;unfold sm;omega⟩
abbrev Ma:List Nat:=[0,1,2,4,5,14,27,32]
theorem F4g (p:Prog)(h:p.Sm)(L:p.decls.length≤100000)(i:Nat)(d:Decl)(hd:p.decls[i]? = some d)(U:d.Two):Ac prog 77 [Cv p,A9 i] (Kv (Hs (Wb p i d))):=by
 have V:=(Ay.1 hd).1;have R:¬(i:Int) < 0:=by omega
 have O:¬(i:Int) ≥ (p.decls.length:Int):=by omega
 unfold Wb;by_cases J:d.kind=1∨d.kind=2
 ·rw [A8 J];have I:=E7d p h L i d hd J U.sigs;generalize Hs (B0u p i d)=r at *;refine cB func77 ?_;refine sR Ma ?_;refine Wc R O Ma fun E u1=>?_;refine kI u1 ?_;clear u1 E
  (refine sV Ma fun K z=>?_;refine ci (E2 hd) ?_;apply z;clear z K)
  refine sK fun E u1=>?_;by_cases k1:d.kind=1
  ·refine Ah k1 Ma ?_;refine tI ?_;refine sC I Ma ?_;exact aR
  ·have k2:d.kind=2:=by omega
   refine Ah k2 Ma ?_;refine tI ?_;refine sC I Ma ?_;exact aR
 rw [A6 J];obtain⟨k1,k2⟩:=Nb.1 J;by_cases k3:d.kind=3
 ·rw [A8 k3];have I:=G5y p h i d hd U.sig;generalize Hs (B0o p i d)=r at *;refine cB func77 ?_;refine sR Ma ?_;refine Wc R O Ma fun E u1=>?_;refine kI u1 ?_;clear u1 E
  (refine sV Ma fun K z=>?_;refine ci (E2 hd) ?_;apply z;clear z K)
  refine Wc k1 k2 Ma fun E u1=>?_;refine kI u1 ?_;clear u1 E;refine Ai k3 Ma fun E u1=>?_;refine tI ?_;refine sC I Ma ?_;exact aR
 rw [A6 k3];refine cB func77 ?_;refine sR Ma ?_;refine Wc R O Ma fun E u1=>?_;refine kI u1 ?_;clear u1 E
 (refine sV Ma fun K z=>?_;refine ci (E2 hd) ?_;apply z;clear z K)
 refine Wc k1 k2 Ma fun E u1=>?_;refine kI u1 ?_;clear u1 E;refine Ai k3 Ma fun E u1=>?_;refine kI u1 ?_;clear u1 E
 (refine sV Ma fun K z=>?_;refine ci (E2 hd) ?_;apply z;clear z K)
 exact aR
abbrev Uu (c:Dd):SV:=.agg [.d (.slice (Bu c.p.decls)),.d (.int .i64 c.p.main.kind),.d (.str c.p.main.name),.d (.str c.p.main.type.name),.d (.slice (Aq c.p.main.type.args)),.d (.int .i64 c.p.main.type.pos),.d (.slice (Aq c.p.main.targs)),.d (.slice (Db c.p.main.kids)),.d (.int .i64 c.p.main.pos),.d (.bool c.strict),.d (.slice (Az c.env)),.d (.slice (B5 c.vars))]
def Ft (c:Dd):List D:=[.slice (Bu c.p.decls),.int .i64 c.p.main.kind,.str c.p.main.name,.str c.p.main.type.name,.slice (Aq c.p.main.type.args),.int .i64 c.p.main.type.pos,.slice (Aq c.p.main.targs),.slice (Db c.p.main.kids),.int .i64 c.p.main.pos,.bool c.strict,.slice (Az c.env),.slice (B5 c.vars)]
abbrev trV (z:Ty × Ey):SV:=.tuple [Be z.1,Kv z.2]
abbrev Wq:Ar:=.cells [.d (.str []),.d .nil,.d (.int .i64 0)]
structure Dd.Sm (c:Dd):Prop where
 p:c.p.Sm
 el:c.env.length≤sm
 env:∀f,f∈c.env→f.Sm
 vl:c.vars.length≤sm
 vars:∀f,f∈c.vars→f.Sm
theorem B4s {p:Prog} (h:p.Sm) {x:Ty} (I:x.Sm):∀f,f∈C5 p x→f.Sm:=by
 intro f E;unfold C5 at E;split at E
 ·rename_i L;obtain⟨d,hd,_⟩:=Lo (by decide) L;rw [hd,Dc] at E;unfold fieldsD at E;obtain⟨g,J,rfl⟩:=Ax.1 E;have:=(h.decls.2 d (Nh hd)).fields.2 g J;exact⟨this.name,this.type.subst I.arg⟩
 ·simp at E
theorem Ro:ty0.Sm:=.mk _ _ _ (by simp) (by simp) (by simp)
theorem A9i (J:c.Sm):∀e:Ex,e.Sm→(Dg c e).1.Sm:=by
 intro e
 induction e using Ex.induct with| _ e W=>?_
 intro L;rw [B4p];unfold A2v;split
 ·unfold A4a;split
  ·rename_i f O;split
   ·exact Ro
   ·exact (J.vars f (Bx O)).type
  ·exact Ro
 split
 ·unfold B2j;split
  ·exact Ro
  ·split
   ·exact Ro
   ·exact L.type
 split
 ·exact Ro
 split
 ·exact Ro
 ·rename_i z zs I;cases E:e.kids with
  |nil=>rw [E] at I;simp at I
  |cons v vs =>
   rw [E] at I;simp only [Cz,Aq4] at I;obtain⟨rfl,rfl⟩:=I;have V:=W v (by rw [E];simp) (L.kids.2 v (by rw [E];simp));split
   ·exact V
   split
   ·unfold A5f;split
    ·exact Ro
    ·rename_i s hs;unfold Rp;split
     ·exact Ro
     ·have R:s∈Cb c.p c.env (Dg c v).1:=by
       unfold P4 at hs;split at hs
       ·cases hs
       ·rename_i Z U;split at hs
        ·cases hs
        ·split at hs
         ·cases hs
         ·split at hs
          ·cases hs
          ·split at hs
           ·cases hs
           ·cases hs;exact Bx U
      exact (A0o J.p J.env V s R).result.subst L.targs.2
   split
   ·unfold Zs;split
    ·exact Ro
    ·split
     ·rename_i f O;split
      ·exact Ro
      ·unfold Rp;split
       ·exact Ro
       ·exact (B4s J.p V f (Bx O)).type
     ·exact Ro
   ·unfold B0i;split
    ·exact Ro
    ·split
     ·exact Ro
     ·exact L.type
theorem A8r (n:Int):Ac prog 149 [A9 n] (trV (Js n)):=by refine cB func149 ?_;refine sR [0,2,3] ?_;refine sR [0,2,3] ?_;exact aR
abbrev A2y:List Nat:=[0,1,2,3,4,5,13]
theorem D9p (x:Ty)(r:Ey):Ac prog 155 [Be x,Kv r] (trV (Rp (x,r))):=by
 have E:=A2q x 0 (by decide) (by decide);obtain⟨q,b,l⟩:=r;unfold Rp;simp only;refine cB func155 ?_;refine sR A2y ?_
 (refine A0.zz 2 rfl rfl ?_;refine A0.zz 3 rfl rfl (wk [(2,.Ag (Bh x) 0),(3,.Ag [.int .i64 q,.bool b,.bool l] 0),(4,.box 4 0),(5,.box 5 0)] [(4,Wq),(5,I8)] ?_))
 cases b with
 |true =>
  rw [A6 (by simp)];refine kR A2y fun I u1=>?_;refine kI u1 ?_
  (refine sG A2y [] 3 [⟨[],[],[],[]⟩,⟨[],[],[4],[]⟩,⟨[4],[],[],[]⟩] fun K z=>?_;refine ev ?_;apply z;clear z K)
  exact aR
 |false =>
  by_cases h:400 < x.count 0
  ·rw [A8 ⟨rfl,h⟩];refine sK fun I u1=>?_
   (refine sV A2y fun K z=>?_;refine⟨_,.inl ⟨_,rfl,E,rfl⟩,?_⟩;(try simp -implicitDefEqProofs only [EV,Nat.reduceEqDiff,reduceCtorEq,h]);apply z;clear z K)
   refine tI ?_;refine sR A2y ?_;exact aR
  ·rw [A6 (fun J=>h J.2)];refine sK fun I u1=>?_
   (refine sV A2y fun K z=>?_;refine⟨_,.inl ⟨_,rfl,E,rfl⟩,?_⟩;(try simp -implicitDefEqProofs only [EV,Nat.reduceEqDiff,reduceCtorEq,h]);apply z;clear z K)
   refine kI u1 ?_
   (refine sG A2y [] 3 [⟨[],[],[],[]⟩,⟨[],[],[4],[]⟩,⟨[4],[],[],[]⟩] fun K z=>?_;refine ev ?_;apply z;clear z K)
   exact aR
theorem D2x (c:Dd)(L:c.Sm)(x:Ty):Ac prog 151 [Uu c,Be x] (B0 (Ld c x)):=by
 have I:=A6h c.env x L.el;have J:=A5s c.p x 1;unfold Ld;generalize Ev c.env x=z at *;generalize Bz c.p x 1=b at *;by_cases E:z < 0
 ·rw [Bn E,Ca];refine cB func151 ?_;refine sR [0,1,2,3,4] ?_
  (refine sV [0,1,2,3,4] fun K z=>?_;refine⟨_,.inl ⟨_,rfl,I,rfl⟩,?_⟩;(try refine An E ?_);refine cc J ?_;apply z;clear z K)
  exact aR
 ·rw [Ci E,Bv];refine cB func151 ?_;refine sR [0,1,2,3,4] ?_
  (refine sV [0,1,2,3,4] fun K z=>?_;refine⟨_,.inl ⟨_,rfl,I,rfl⟩,?_⟩;(try refine An E ?_);apply z;clear z K)
  exact aR
theorem E1g (c:Dd)(L:c.Sm)(x:Ty):Ac prog 157 [Uu c,Be x] (B0 (A1r c x)):=by
 have I:=A6h c.env x L.el;have J:=A5s c.p x 2;unfold A1r;generalize Ev c.env x=z at *;generalize Bz c.p x 2=b at *;by_cases E:0≤z
 ·rw [Bn E,Tp];refine cB func157 ?_;refine sR [0,1,2,3,4] ?_
  (refine sV [0,1,2,3,4] fun K z=>?_;refine⟨_,.inl ⟨_,rfl,I,rfl⟩,?_⟩;(try refine An E ?_);apply z;clear z K)
  exact aR
 ·rw [Ci E,V1];refine cB func157 ?_;refine sR [0,1,2,3,4] ?_
  (refine sV [0,1,2,3,4] fun K z=>?_;refine⟨_,.inl ⟨_,rfl,I,rfl⟩,?_⟩;(try refine An E ?_);refine cc J ?_;apply z;clear z K)
  exact aR
abbrev Uw:List Nat:=[0,1,2,3,4,5,6,7,8,27]
theorem C7o (c:Dd)(I:c.Sm)(e:Ex)(hT:Ac prog 79 [Uu c,Di e] (trV (Dg c e)))(J:(Dg c e).1.Sm)(w:Ty)(O:w.Sm):Ac prog 147 [Uu c,Di e,Be w] (Kv (Up c w e (Dg c e))):=by
 have E:=A9k c.p I.p c.env I.el I.env (Dg c e).1 w J O;unfold Up;generalize Dg c e=z at *;obtain⟨x,⟨q,b,l⟩⟩:=z;simp only at E J ⊢;cases b with
 |true =>rw [A6 (by simp)];refine cB func147 ?_;refine sR Uw ?_;refine sC hT Uw ?_;refine kR Uw fun L u1=>?_;refine kI u1 ?_;refine sR Uw ?_;exact aR
 |false =>
  generalize Dj c.p c.env x w=b at *;cases b with
  |true =>rw [A6 (by simp)];refine cB func147 ?_;refine sR Uw ?_;refine sC hT Uw ?_;refine kC E Uw fun L u1=>?_;refine kI u1 ?_;refine sR Uw ?_;exact aR
  |false =>rw [A8 ⟨rfl,rfl⟩];refine cB func147 ?_;refine sR Uw ?_;refine sC hT Uw ?_;refine kC E Uw fun L u1=>?_;refine tI ?_;refine sR Uw ?_;exact aR
abbrev Yu:List Nat:=[0,1,2,3,4,5,10,11,12,16,34]
theorem D2y (c:Dd)(l:List Ex)(a1:l.length≤sm)(params:List Param)(a2:params.length=l.length)(L:∀f,f∈params→f.Sm)(names:List A3)(args:List Ty)(ha:∀u,u∈args→u.Sm)
  (hF:∀k,k∈l→∀w:Ty,w.Sm→Ac prog 147 [Uu c,Di k,Be w] (Kv (Up c w k (Dg c k)))) :
  Ac prog 153 [Uu c,.d (.slice (Db l)),.d (.slice (B5 params)),Ct names,Cg args] (Kv (Ka c (params.map fun f=>f.type.subst names args) l (l.map (Dg c)))):=by
 generalize hR:Ka c (params.map fun f=>f.type.subst names args) l (l.map (Dg c))=R;refine cB func153 ?_;refine sR Yu ?_
 (refine A0.zz 5 rfl rfl (wk [(1,.d (.slice (Db l))),(2,.d (.slice (B5 params))),(3,Ct names),(4,Cg args),(5,.Ag (Ft c) 0),(10,.box 10 0)] [(10,I8)] ?_))
 refine kR Yu fun K1 u1=>?_;refine A0.bb (A0.ii l (X:=Unit) (fun j _=>[(1,.d (.slice (Db l))),(2,.d (.slice (B5 params))),(3,Ct names),(4,Cg args),(5,.Ag (Ft c) 0),(10,.box 10 0),(11,A9 j)]) (fun _ _=>[(10,I8)])
  (fun j _=>Ka c ((params.drop j).map fun f=>f.type.subst names args) (l.drop j) ((l.drop j).map (Dg c))=R) () hR (by simp [sle,Aw,Ae,Ft]) sB ?_ ?_)
 rotate_left
 ·intro j _ k hk I dp tk Z E;have V:j < params.length:=by omega
  have hp:params[j]? = some params[j]:=Ba V;have J:=F7 V;have U:params.drop j=params[j]::params.drop (j+1):=Fy V;generalize params[j]=f at *;rw [dp,U,Cz,Cz,Ka] at E;have hs:=Ur names args ha f.type (L f J).type;have hf:=hF k I (f.type.subst names args) ((L f J).type.subst ha);generalize Up c (f.type.subst names args) k (Dg c k)=r at *;refine Ai Z Yu fun O u2=>?_;refine gI u2 ?_;clear u2 O;refine sK fun O u2=>?_;refine A0.bb ?_
  (refine sG Yu [] 15 [⟨[],[],[12],[12]⟩,⟨[],[],[12],[12]⟩,⟨[],[],[12],[12]⟩,⟨[],[],[12],[12]⟩,⟨[],[],[12],[12]⟩,⟨[],[],[12],[12]⟩,⟨[],[],[12],[12]⟩,⟨[],[],[12],[12]⟩,⟨[],[],[12],[12]⟩,⟨[],[],[12],[12]⟩,⟨[],[],[12],[12]⟩,⟨[],[],[12],[12]⟩,⟨[],[],[12],[12]⟩,⟨[],[],[12],[12]⟩,⟨[12],[12],[],[]⟩] fun K z=>?_;simp -implicitDefEqProofs only [EV,Nat.reduceAdd,Nat.reduceEqDiff,Nat.reduceBEq,reduceCtorEq,A2h,Jj,A3h,Ft];refine ci (Ed hk) ?_;refine ci (E7 hp) ?_;refine cc hs ?_;refine cc hf ?_;apply z;clear z K)
  refine sR Yu ?_;refine A0.cond rfl (fun W=>?_) (fun W=>?_)
  ·rw [A8 W] at E;refine sR Yu ?_;rw [←E];exact aR
  ·rw [A6 (by rw [W];simp)] at E;refine A0.kk (u2 _ _ ?_);clear u2 O;refine lT Yu ?_;exact⟨(),E,(by simp [sle,Aw,Ae,Ft]),sB⟩
 intro _ E;rw [D6] at E;have a0:R=Nw:=by rw [←E];cases (params.drop l.length).map fun f=>f.type.subst names args <;> rfl
 subst a0;refine Ai B4 Yu fun O u2=>?_;refine A0.ss rfl ?_;simp only [A4,Aa,Af];refine u1 _ _ ?_;refine sR Yu ?_;exact aR
variable {x:Ty}
theorem G0w {j:Nat} {s:A5} (J:F8 (Cb c.p c.env x) e.name=j)(I:(Cb c.p c.env x)[j]? = some s):P4 c e x=if s.A1.length≠e.targs.length then .inl e.pos else
  match Lz c.p c.env e.targs with
  |some q=>.inl q
  |none=>if 0≤Gt c.p c.env s.A1 e.targs then .inl ((e.targs[(Gt c.p c.env s.A1 e.targs).toNat]?).getD default).pos else
   if e.kids.length≠s.params.length+1 then .inl e.pos else .inr s:=by
 unfold P4;rw [J,Gr,I];simp only;by_cases E:s.A1.length≠e.targs.length
 ·rw [A8 (.inr E),A8 E]
 ·rw [A6 (by rintro (h| h);omega;exact E h),A6 E] <;> rfl
abbrev Hy:List Nat:=[0,1,2,3,4,5,6,7,8,9,10,11,12,13,14,15,16,40,54,70,85,102]
theorem F2o (c:Dd)(J:c.Sm)(e:Ex)(he:e.Sm)(x:Ty)(hx:x.Sm)(am:1≤e.kids.length)
  (hF:∀k,k∈e.kids.tail→∀w:Ty,w.Sm→Ac prog 147 [Uu c,Di k,Be w] (Kv (Up c w k (Dg c k)))) :
  Ac prog 154 [Uu c,Di e,Be x] (trV (A5f c e x (e.kids.tail.map (Dg c)))):=by
 have a7:=B6r c.p J.p c.env J.el J.env x hx;have ag:=W3 J.p c.env x;have ae:=A0o J.p J.env hx;have a4:=C4u (Cb c.p c.env x) e.name ag;have a0:=A8r e.pos;have ao:=he.targs.1;have a6:=@G0w c e x;generalize hR:A5f c e x (e.kids.tail.map (Dg c))=R;unfold A5f at hR;have a3:P4 c e x=.inl e.pos→R=Js e.pos:=fun h=>by rw [←hR,h]
 have a2:F8 (Cb c.p c.env x) e.name = -1→P4 c e x=.inl e.pos:=fun h=>by
  unfold P4;rw [h];split
  ·rfl
  ·rw [A8 (.inl (by decide))]
 have a9:=N1 (fun s:A5=>decide (s.name=e.name)) (Cb c.p c.env x);unfold F8 at a6 a2;generalize Cb c.p c.env x=l at *;refine cB func154 ?_;refine sR Hy ?_
 (refine A0.zz 3 rfl rfl ?_;refine A0.zz 4 rfl rfl ?_;refine A0.zz 5 rfl rfl (wk [(3,.Ag (Ft c) 0),(4,.Ag (Ce e) 0),(5,.Ag (Bh x) 0),(6,.box 6 0),(7,.box 7 0)] [(6,Wq),(7,I8)] ?_))
 (refine sQ Hy fun K z=>?_;simp -implicitDefEqProofs only [EV,Nat.reduceAdd,Nat.reduceEqDiff,Nat.reduceLeDiff,reduceCtorEq,I9,Vs,A4e,A3h,Ft];refine⟨_,.inl ⟨_,rfl,a7,rfl⟩,?_⟩;apply z;clear z K)
 refine sC a4 Hy ?_;rcases a9 with ⟨h1,_⟩| ⟨j,s,h1,h2,_⟩
 ·rw [h1];obtain rfl:=a3 (a2 h1);refine sK fun W u1=>?_;refine dR Hy 12 ?_;refine tI ?_;refine sC a0 Hy ?_;exact aR
 have E:=a6 h1 h2;have hs:=ae s (Bx h2);rw [h1];have aa:¬(j:Int) < 0:=by omega
 by_cases a1:s.A1.length=e.targs.length;rotate_left
 ·rw [A8 a1] at E;obtain rfl:=a3 E;have V:¬(s.A1.length:Int)=(e.targs.length:Int):=by omega
  refine sK fun W u1=>?_
  (refine sG Hy [] 12 [] fun K z=>?_;refine An aa ?_;refine⟨by omega,_,E1 h2,rfl,?_⟩;(try refine An V ?_);apply z;clear z K)
  refine tI ?_;refine sC a0 Hy ?_;exact aR
 rw [A6 fun hh=>hh a1] at E;have V:(s.A1.length:Int)=(e.targs.length:Int):=by omega
 have aj:=C6j c.p J.p c.env J.el J.env s.A1 hs.A1.1 hs.A1.2 e.targs a1.symm he.targs.2;have ah:=@D1f c.p c.env s.A1 e.targs;refine sK fun W u1=>?_
 (refine sG Hy [] 12 [] fun K z=>?_;refine An aa ?_;refine⟨by omega,_,E1 h2,rfl,?_⟩;(try refine An V ?_);apply z;clear z K)
 refine kI u1 ?_;clear u1 W
 (refine sV Hy fun K z=>?_;refine ci (E1 h2) ?_;apply z;clear z K)
 (refine A0.zz 10 rfl rfl (wk [(3,.Ag (Ft c) 0),(4,.Ag (Ce e) 0),(6,.box 6 0),(7,.box 7 0),(10,.Ag (Eu s) 0)] [(6,Wq),(7,I8)] ?_))
 refine sK fun W u1=>?_
 (refine sQ Hy fun K z=>?_;simp -implicitDefEqProofs only [EV,Nat.reduceEqDiff,reduceCtorEq,Ft];apply z;clear z K)
 refine A0.bb (A0.ii e.targs (X:=Unit) (fun j _=>[(3,.Ag (Ft c) 0),(4,.Ag (Ce e) 0),(6,.box 6 0),(7,.box 7 0),(10,.Ag (Eu s) 0),(11,A9 j)]) (fun _ _=>[(6,Wq),(7,I8)])
  (fun j _=>Lz c.p c.env (e.targs.drop j)=Lz c.p c.env e.targs) () (by simp) (by simp [sle,Aw,Ae,Ft,Ce,Eu]) sB ?_ ?_)
 rotate_left
 ·intro j _ d hd a' dp tk ak U;have I:=A8g c.p J.p c.env J.el J.env d (he.targs.2 d a');rw [dp,Lz] at U;refine sK fun K2 u2=>?_
  (refine sQ Hy fun K z=>?_;simp -implicitDefEqProofs only [EV,Nat.reduceEqDiff,reduceCtorEq,Mr,Jj,Ft,ak];apply z;clear z K)
  refine gI u2 ?_;clear u2 K2;refine sK fun K2 u2=>?_;refine A0.bb ?_;cases ho:C0 c.p c.env d with
  |none =>
   rw [ho] at I U;simp only [Sx] at I U
   (refine sG Hy [] 14 [] fun K z=>?_;refine ev ?_;refine ci (F5 hd) ?_;refine cc I ?_;apply z;clear z K)
   refine sR Hy ?_;refine A0.ff rfl (A0.kk (u2 _ _ ?_));clear u2 K2
   (refine lV Hy fun K z=>?_;refine⟨by first| (unfold B7;omega)| (simp only [B7,sm] at *;omega),?_⟩;apply z;clear z K;try simp only [A4,])
   exact⟨(),U,(by simp [sle,Aw,Ae,Ft,Ce,Eu]),sB⟩
  |some q =>
   rw [ho] at I U;simp only [Sx] at I U;rw [←U] at E;obtain rfl:R=Js q:=by rw [←hR,E]
   have L:=A8r q
   (refine sG Hy [] 14 [] fun K z=>?_;refine ev ?_;refine ci (F5 hd) ?_;refine cc I ?_;apply z;clear z K)
   refine sR Hy ?_;refine A0.tt rfl ?_;refine sC L Hy ?_;exact aR
 intro _ U;rw [D6,Lz] at U;rw [←U] at E;simp only at E;clear U;refine sK fun K2 u2=>?_
 (refine sQ Hy fun K z=>?_;simp -implicitDefEqProofs only [EV,Nat.reduceEqDiff,reduceCtorEq,Mr,Jj,Ft,B4];apply z;clear z K)
 refine A0.ss rfl ?_;simp only [A4,Aa,Af];refine u1 _ _ ?_;clear u2 K2 u1 W;refine sC aj Hy ?_;generalize Gt c.p c.env s.A1 e.targs=b at *;by_cases Z:0≤b
 ·obtain⟨u,hu⟩:=ah Z a1.symm;rw [A8 Z,hu,Dc] at E;obtain rfl:R=Js u.pos:=by rw [←hR,E]
  have L:=A8r u.pos;refine Ai Z Hy fun W u1=>?_;refine tI ?_
  (refine sV Hy fun K z=>?_;refine ci (F5 hu) ?_;refine cc L ?_;apply z;clear z K)
  exact aR
 rw [A6 Z] at E;refine Ai Z Hy fun W u1=>?_;refine kI u1 ?_;clear u1 W;have ap:=hs.params.1;by_cases a8:e.kids.length=s.params.length+1;rotate_left
 ·rw [A8 a8] at E;obtain rfl:=a3 E;have O:¬(e.kids.length:Int)=(s.params.length:Int)+1:=by omega
  refine sK fun W u1=>?_
  (refine sQ Hy fun K z=>?_;refine An O ?_;refine⟨by first| (unfold B7;omega)| (simp only [B7,sm] at *;omega),?_⟩;apply z;clear z K)
  refine tI ?_;refine sC a0 Hy ?_;exact aR
 rw [A6 fun hh=>hh a8] at E;have O:(e.kids.length:Int)=(s.params.length:Int)+1:=by omega
 refine sK fun W u1=>?_
 (refine sQ Hy fun K z=>?_;refine An O ?_;refine⟨by first| (unfold B7;omega)| (simp only [B7,sm] at *;omega),?_⟩;apply z;clear z K)
 refine kI u1 ?_;clear u1 W;have af:=To s.A1 hs.A1.1;have ab:=D2y c e.kids.tail (by rw [List.length_tail];omega) s.params (by rw [List.length_tail];omega) hs.params.2 (s.A1.map (·.name)) e.targs he.targs.2 hF;have ai:=Ur (s.A1.map (·.name)) e.targs he.targs.2 s.result hs.result;rw [E] at hR;simp only at hR;have a5:=D9p (s.result.subst (s.A1.map (·.name)) e.targs) (Ka c (s.params.map fun f=>f.type.subst (s.A1.map (·.name)) e.targs) e.kids.tail (e.kids.tail.map (Dg c)));have ad:R=Rp (s.result.subst (s.A1.map (·.name)) e.targs,Ka c (s.params.map fun f=>f.type.subst (s.A1.map (·.name)) e.targs) e.kids.tail (e.kids.tail.map (Dg c))):=hR.symm;rw [←ad] at a5;have ac:Db e.kids.tail=((Db e.kids).take e.kids.length).drop 1:=by rw [Aj9 (by rw [C2n];exact Cq _),Lp,Lp,←List.map_drop,List.drop_one]
 rw [ac] at ab;generalize Ka c (s.params.map fun f=>f.type.subst (s.A1.map (·.name)) e.targs) e.kids.tail (e.kids.tail.map (Dg c))=r at *;obtain⟨rt,rr⟩:=R
 (refine sV Hy fun K z=>?_;refine⟨_,.inl ⟨_,rfl,af,rfl⟩,?_⟩;apply z;clear z K)
 (refine sG Hy [] 11 [⟨[],[],[16],[16]⟩,⟨[],[],[16],[16]⟩,⟨[],[],[16],[16]⟩,⟨[],[],[16],[16]⟩,⟨[],[],[16],[16]⟩,⟨[],[],[16],[16]⟩,⟨[],[],[16],[16]⟩,⟨[],[],[16],[16]⟩,⟨[],[],[16],[16]⟩,⟨[],[],[16],[16]⟩,⟨[16],[16],[],[]⟩] fun K z=>?_;refine ev ?_;refine⟨D6r _,by omega,by omega,?_⟩;refine cc ab ?_;apply z;clear z K)
 (refine sG Hy [] 10 [] fun K z=>?_;refine ev ?_;refine cc ai ?_;refine cc a5 ?_;apply z;clear z K)
 exact aR
theorem F5i (h:Hn c.vars e.name = -1):A4a c e=Js e.pos:=by
 unfold A4a;rw [h];split
 ·rw [A8 (by decide)]
 ·rfl
theorem F2u {r:Ey} (hs:Ld c x=true)(h:Hn (C5 c.p x) e.name = -1):Zs c e x r=Js e.pos:=by
 unfold Zs;rw [A6 (by rw [hs];simp),h];split
 ·rw [A8 (by decide)]
 ·rfl
theorem C9i (h:Ld c x=true):Bz c.p x 1=true:=by unfold Ld at h;rw [B1] at h;exact h.2
theorem F1n (h:¬ 0≤Ev c.env x):Z0 c x=x:=by unfold Z0 Ck;rw [A8 (by omega)];rfl
theorem G1f {f:Ak} (h:0≤Ev c.env x)(E:c.env[(Ev c.env x).toNat]? = some f):Z0 c x=f.bound:=by unfold Z0 Ck;rw [A6 (by omega),E];rfl
abbrev Bq:List Nat:=[0,1,2,3,4,5,6,7,8,9,10,11,12,13,14,15,16,19,24,35,50,61,82,117,133,138,147,151,164,174,199,205,212,240]
theorem C1v (c:Dd)(U:c.Sm):∀e:Ex,e.Sm→Ac prog 79 [Uu c,Di e] (trV (Dg c e)):=by
 intro e
 induction e using Ex.induct with| _ e ih=>?_
 intro he;have I:=A8r e.pos;have hF:∀k,k∈e.kids→∀w:Ty,w.Sm→Ac prog 147 [Uu c,Di k,Be w] (Kv (Up c w k (Dg c k))):=fun k hk w hw =>C7o c U k (ih k hk (he.kids.2 k hk)) (A9i U k (he.kids.2 k hk)) w hw
 have ag:=he.kids.1;have am:=U.vl;rw [B4p];generalize E:A2v c e (e.kids.map (Dg c))=R;unfold A2v at E;refine cB func79 ?_;refine sR Bq ?_
 (refine A0.zz 2 rfl rfl ?_;refine A0.zz 3 rfl rfl (wk [(2,.Ag (Ft c) 0),(3,.Ag (Ce e) 0),(4,.box 4 0),(5,.box 5 0)] [(4,Wq),(5,I8)] ?_))
 by_cases k1:e.kind=1
 ·rw [A8 k1] at E;have d1:=Bn k1;refine sK fun J u1=>?_
  (refine sQ Bq fun K z=>?_;simp -implicitDefEqProofs only [EV,Nat.reduceEqDiff,reduceCtorEq,Jw,Jj,Ft,d1];apply z;clear z K)
  refine tI ?_;refine kR Bq fun K2 u2=>?_;refine A0.bb (A0.ii c.vars (X:=Unit) (fun j _=>[(2,.Ag (Ft c) 0),(3,.Ag (Ce e) 0),(4,.box 4 0),(5,.box 5 0),(6,A9 j)]) (fun _ _=>[(4,Wq),(5,I8)])
   (fun j _=>∀y,y∈c.vars.take j→(fun f:Param=>decide (f.name=e.name)) y=false) () (by simp) (by simp [sle,Aw,Ae,Ft,Ce]) sB ?_ ?_)
  rotate_left
  ·intro j _ d hd ab dp tk aa hI;refine sK fun K3 u3=>?_
   (refine sQ Bq fun K z=>?_;simp -implicitDefEqProofs only [EV,Nat.reduceEqDiff,reduceCtorEq,Uv,A3h,Ft,aa];apply z;clear z K)
   refine gI u3 ?_;clear u3 K3;refine sK fun K3 u3=>?_;refine A0.bb ?_;by_cases hn:d.name=e.name
   ·have a6:Hn c.vars e.name=j:=Uj hd (by simp [hn]) hI;have ah:¬(j:Int) < 0:=by omega
    obtain rfl:R=(d.type,Nw):=by rw [←E];unfold A4a;rw [a6,Gr,hd];simp only;rw [A6 ah]
    have dn:=Bn hn
    (refine sG Bq [] 8 [] fun K z=>?_;refine ev ?_;refine⟨by omega,_,E7 hd,rfl,?_⟩;(try refine An dn ?_);apply z;clear z K)
    refine A0.tt rfl ?_
    (refine sV Bq fun K z=>?_;refine ci (E7 hd) ?_;apply z;clear z K)
    exact aR
   ·(refine sG Bq [] 8 [] fun K z=>?_;refine ev ?_;refine⟨by omega,_,E7 hd,rfl,?_⟩;(try refine An hn ?_);apply z;clear z K)
    refine A0.ff rfl (A0.kk (u3 _ _ ?_));clear u3 K3
    (refine lV Bq fun K z=>?_;refine⟨by first| (unfold B7;omega)| (simp only [B7,sm] at *;omega),?_⟩;apply z;clear z K;try simp only [A4,])
    refine⟨(),?_,(by simp [sle,Aw,Ae,Ft,Ce]),sB⟩;intro y hy;rw [tk,Bw] at hy;rcases hy with hy| hy
    ·exact hI y hy
    ·simp only [Qt] at hy;subst hy;exact Ci hn
  intro _ hI;rw [Cs] at hI;obtain rfl:R=Js e.pos:=by rw [←E];exact F5i (Th hI)
  refine sK fun K3 u3=>?_
  (refine sQ Bq fun K z=>?_;simp -implicitDefEqProofs only [EV,Nat.reduceEqDiff,reduceCtorEq,Uv,A3h,Ft,B4];apply z;clear z K)
  refine A0.ss rfl ?_;simp only [A4,Aa,Af];refine u2 _ _ ?_;refine sC I Bq ?_;exact aR
 rw [A6 k1] at E;refine sK fun J u1=>?_
 (refine sQ Bq fun K z=>?_;simp -implicitDefEqProofs only [EV,Nat.reduceEqDiff,reduceCtorEq,Jw,Jj,Ft,k1];apply z;clear z K)
 refine kI u1 ?_;clear u1 J;by_cases k3:e.kind=3
 ·rw [A8 k3] at E;unfold B2j at E;have d3:=Bn k3;have O:=A8g c.p U.p c.env U.el U.env e.type he.type;have hst:=D2x c U e.type;refine Ai d3 Bq fun J u1=>?_;refine tI ?_;cases ho:C0 c.p c.env e.type with
  |some q =>rw [ho] at O E;simp only [Sx] at O E;have a2:=A8r q;subst E;refine sC O Bq ?_;refine kR Bq fun K2 u2=>?_;refine tI ?_;refine sC a2 Bq ?_;exact aR
  |none =>
   rw [ho] at O E;simp only [Sx] at O E;refine sC O Bq ?_;refine kR Bq fun K2 u2=>?_;refine kI u2 ?_;clear u2 K2;rcases Fg (Ld c e.type) with hs| hs
   rotate_left
   ·rw [A8 (.inl hs)] at E;subst E;rw [hs] at hst;refine sK fun K2 u2=>?_
    (refine sG Bq [] 15 [] fun K z=>?_;refine ev ?_;refine cc hst ?_;apply z;clear z K)
    refine tI ?_;refine sC I Bq ?_;exact aR
   have a3:=C5d c.p U.p e.type he.type (C9i hs);rw [hs] at hst;by_cases hl:(C5 c.p e.type).length=e.kids.length;rotate_left
   ·rw [A8 (.inr hl)] at E;subst E;have a8:¬((C5 c.p e.type).length:Int)=(e.kids.length:Int):=by omega
    refine sK fun K2 u2=>?_
    (refine sG Bq [] 15 [] fun K z=>?_;refine ev ?_;refine cc hst ?_;refine⟨_,.inl ⟨_,rfl,a3,rfl⟩,?_⟩;(try refine An a8 ?_);apply z;clear z K)
    refine tI ?_;refine sC I Bq ?_;exact aR
   rw [A6 (by rw [hs];simp [hl])] at E;have a8:((C5 c.p e.type).length:Int)=(e.kids.length:Int):=by omega
   have ad:=D2y c e.kids ag (C5 c.p e.type) hl (B4s U.p he.type) [] [] (by simp) hF;have aj:((C5 c.p e.type).map fun f=>f.type.subst [] [])=(C5 c.p e.type).map (·.type):=Hv fun f _=>A6m f.type;rw [aj] at ad;subst E;generalize Ka c ((C5 c.p e.type).map (·.type)) e.kids (e.kids.map (Dg c))=r at *;refine sK fun K2 u2=>?_
   (refine sG Bq [] 15 [] fun K z=>?_;refine ev ?_;refine cc hst ?_;refine⟨_,.inl ⟨_,rfl,a3,rfl⟩,?_⟩;(try refine An a8 ?_);apply z;clear z K)
   refine kI u2 ?_;clear u2 K2
   (refine sG Bq [] 11 [] fun K z=>?_;refine ev ?_;refine cc a3 ?_;refine cc ad ?_;apply z;clear z K)
   exact aR
 rw [A6 k3] at E;refine Ai k3 Bq fun J u1=>?_;refine kI u1 ?_;clear u1 J;by_cases k2:e.kind≠2∧e.kind≠4∧e.kind≠5
 ·rw [A8 k2] at E;subst E;obtain⟨n2,n4,n5⟩:=k2;refine kR3 n2 n4 n5 Bq fun J u1=>?_;refine tI ?_;refine sC I Bq ?_;exact aR
 rw [A6 k2] at E;have kk:e.kind=2∨e.kind=4∨e.kind=5:=by omega
 have ae:e.kids=[]∨∃v vs,e.kids=v::vs:=by
  cases e.kids with
  |nil=>exact .inl rfl
  |cons v vs=>exact .inr ⟨v,vs,rfl⟩
 rcases ae with Z| ⟨v,vs,Z⟩
 ·rw [Z] at E;simp only [Hr] at E;subst E;have a1:(e.kids.length:Int)=0:=by rw [Z];rfl
  rcases kk with k| k| k
  ·have e2:=Bn k;refine sK fun J u1=>?_
   (refine sQ Bq fun K z=>?_;simp -implicitDefEqProofs only [EV,Nat.reduceEqDiff,reduceCtorEq,Jw,A2h,Jj,T4,e2,a1];apply z;clear z K)
   refine tI ?_;refine sC I Bq ?_;exact aR
  ·have n2:¬e.kind=2:=by omega
   have e4:=Bn k;refine sK fun J u1=>?_
   (refine sQ Bq fun K z=>?_;simp -implicitDefEqProofs only [EV,Nat.reduceEqDiff,reduceCtorEq,Jw,A2h,Jj,T4,n2,e4,a1];apply z;clear z K)
   refine tI ?_;refine sC I Bq ?_;exact aR
  ·have n2:¬e.kind=2:=by omega
   have n4:¬e.kind=4:=by omega
   have e5:=Bn k;refine sK fun J u1=>?_
   (refine sQ Bq fun K z=>?_;simp -implicitDefEqProofs only [EV,Nat.reduceEqDiff,reduceCtorEq,Jw,A2h,Jj,T4,n2,n4,e5,a1];apply z;clear z K)
   refine tI ?_;refine sC I Bq ?_;exact aR
 ·have a1:¬(e.kids.length:Int)=0:=by rw [Z];simp only [Bg];omega
  have h0:e.kids[0]? = some v:=by rw [Z];rfl
  have a9:v∈e.kids:=by rw [Z];simp
  have hT:=ih v a9 (he.kids.2 v a9);have a4:=A9i U v (he.kids.2 v a9);have O:=A8g c.p U.p c.env U.el U.env e.type he.type;have a0:=F2o c U e he (Dg c v).1 a4 (by rw [Z];simp) fun k hk w hw=>hF k (List.mem_of_mem_tail hk) w hw;have af:e.kids.tail=vs:=by rw [Z];rfl
  rw [af] at a0;rw [Z] at E;clear Z;simp only [Cz] at E;generalize Dg c v=z at *;obtain⟨x,⟨q,b,lg⟩⟩:=z;simp only at E a4 a0;have a5:=fun f:Param=>D9p f.type ⟨q,b,lg⟩;rcases kk with k| k| k
  ·have e2:=Bn k;refine sK fun J u1=>?_
   (refine sQ Bq fun K z=>?_;simp -implicitDefEqProofs only [EV,Nat.reduceEqDiff,reduceCtorEq,Jw,A2h,Jj,T4,e2,a1];apply z;clear z K)
   refine kI u1 ?_;clear u1 J
   (refine sG Bq [] 12 [⟨[],[],[9,10],[9,10]⟩,⟨[],[],[9,10],[9,10]⟩,⟨[],[],[9,10],[9,10]⟩,⟨[],[],[9,10],[9,10]⟩,⟨[],[],[9,10],[9,10]⟩,⟨[],[],[9,10],[9,10]⟩,⟨[],[],[9,10],[9,10]⟩,⟨[],[],[9,10],[9,10]⟩,⟨[],[],[9,10],[9,10]⟩,⟨[9],[9],[10],[10]⟩,⟨[10],[10],[9],[9]⟩,⟨[9],[],[],[]⟩] fun K z=>?_;refine ev ?_;refine cj (Ed h0) ?_;refine cc hT ?_;apply z;clear z K)
   (refine A0.zz 9 rfl rfl ?_;refine A0.zz 10 rfl rfl (wk [(2,.Ag (Ft c) 0),(3,.Ag (Ce e) 0),(4,.box 4 0),(5,.box 5 0),(9,.Ag (Bh x) 0),(10,.Ag [.int .i64 q,.bool b,.bool lg] 0)] [(4,Wq),(5,I8)] ?_))
   cases b with
   |true =>
    rw [A8 rfl] at E;subst E;refine kR Bq fun J u1=>?_;refine tI ?_
    (refine sG Bq [] 3 [⟨[],[],[],[]⟩,⟨[],[],[4],[]⟩,⟨[4],[],[],[]⟩] fun K z=>?_;refine ev ?_;apply z;clear z K)
    exact aR
   |false =>
    rw [A6 (by simp),A8 k] at E;rw [E] at a0;obtain⟨rt,rr⟩:=R;refine kR Bq fun J u1=>?_;refine kI u1 ?_;clear u1 J;refine sK fun J u1=>?_
    (refine sQ Bq fun K z=>?_;simp -implicitDefEqProofs only [EV,Nat.reduceEqDiff,reduceCtorEq,Jw,Jj,Ft,e2];apply z;clear z K)
    refine tI ?_;refine sC a0 Bq ?_;exact aR
  ·have n2:¬e.kind=2:=by omega
   have e4:=Bn k;refine sK fun J u1=>?_
   (refine sQ Bq fun K z=>?_;simp -implicitDefEqProofs only [EV,Nat.reduceEqDiff,reduceCtorEq,Jw,A2h,Jj,T4,n2,e4,a1];apply z;clear z K)
   refine kI u1 ?_;clear u1 J
   (refine sG Bq [] 12 [⟨[],[],[9,10],[9,10]⟩,⟨[],[],[9,10],[9,10]⟩,⟨[],[],[9,10],[9,10]⟩,⟨[],[],[9,10],[9,10]⟩,⟨[],[],[9,10],[9,10]⟩,⟨[],[],[9,10],[9,10]⟩,⟨[],[],[9,10],[9,10]⟩,⟨[],[],[9,10],[9,10]⟩,⟨[],[],[9,10],[9,10]⟩,⟨[9],[9],[10],[10]⟩,⟨[10],[10],[9],[9]⟩,⟨[9],[],[],[]⟩] fun K z=>?_;refine ev ?_;refine cj (Ed h0) ?_;refine cc hT ?_;apply z;clear z K)
   (refine A0.zz 9 rfl rfl ?_;refine A0.zz 10 rfl rfl (wk [(2,.Ag (Ft c) 0),(3,.Ag (Ce e) 0),(4,.box 4 0),(5,.box 5 0),(9,.Ag (Bh x) 0),(10,.Ag [.int .i64 q,.bool b,.bool lg] 0)] [(4,Wq),(5,I8)] ?_))
   cases b with
   |true =>
    rw [A8 rfl] at E;subst E;refine kR Bq fun J u1=>?_;refine tI ?_
    (refine sG Bq [] 3 [⟨[],[],[],[]⟩,⟨[],[],[4],[]⟩,⟨[4],[],[],[]⟩] fun K z=>?_;refine ev ?_;apply z;clear z K)
    exact aR
   |false =>
    rw [A6 (by simp),A6 n2,A8 k] at E;refine kR Bq fun J u1=>?_;refine kI u1 ?_;clear u1 J;refine sK fun J u1=>?_
    (refine sQ Bq fun K z=>?_;simp -implicitDefEqProofs only [EV,Nat.reduceEqDiff,reduceCtorEq,Jw,Jj,Ft,n2];apply z;clear z K)
    refine kI u1 ?_;clear u1 J;refine Ai e4 Bq fun J u1=>?_;refine tI ?_;have hst:=D2x c U x;rcases Fg (Ld c x) with hs| hs
    rotate_left
    ·obtain rfl:R=Js e.pos:=by rw [←E];unfold Zs;rw [A8 hs]
     rw [hs] at hst;refine kC hst Bq fun K2 u2=>?_;refine tI ?_;refine sC I Bq ?_;exact aR
    have a3:=C5d c.p U.p x a4 (C9i hs);have ak:=C1w U.p x;have ac:=@F2u c e x ⟨q,false,lg⟩ hs;have Qg:∀(j:Nat) (f:Param),Hn (C5 c.p x) e.name=j→(C5 c.p x)[j]? = some f→Zs c e x ⟨q,false,lg⟩=Rp (f.type,⟨q,false,lg⟩):=fun j f h1 h2=>by unfold Zs;rw [A6 (by rw [hs];simp),h1,Gr,h2];simp only;rw [A6 (by omega)]
    rw [hs] at hst;generalize C5 c.p x=L at *;refine kC hst Bq fun K2 u2=>?_;refine kI u2 ?_;clear u2 K2
    (refine sV Bq fun K z=>?_;refine⟨_,.inl ⟨_,rfl,a3,rfl⟩,?_⟩;apply z;clear z K)
    refine kR Bq fun K2 u2=>?_;refine A0.bb (A0.ii L (X:=Unit) (fun j _=>[(2,.Ag (Ft c) 0),(3,.Ag (Ce e) 0),(4,.box 4 0),(5,.box 5 0),(10,.Ag [.int .i64 q,.bool false,.bool lg] 0),(11,.d (.slice (B5 L))),(12,A9 j)]) (fun _ _=>[(4,Wq),(5,I8)])
     (fun j _=>∀y,y∈L.take j→(fun f:Param=>decide (f.name=e.name)) y=false) () (by simp) (by simp [sle,Aw,Ae,Ft,Ce]) sB ?_ ?_)
    rotate_left
    ·intro j _ d hd ab dp tk aa hI;refine sK fun K3 u3=>?_
     (refine sQ Bq fun K z=>?_;simp -implicitDefEqProofs only [EV,Nat.reduceEqDiff,reduceCtorEq,Uv,Ft,aa];apply z;clear z K)
     refine gI u3 ?_;clear u3 K3;refine sK fun K3 u3=>?_;refine A0.bb ?_;by_cases hn:d.name=e.name
     ·have a6:Hn L e.name=j:=Uj hd (by simp [hn]) hI;have a5:=a5 d;rw [←Qg j d a6 hd,E] at a5;obtain⟨rt,rr⟩:=R;have dn:=Bn hn
      (refine sG Bq [] 7 [] fun K z=>?_;refine ev ?_;refine⟨by omega,_,E7 hd,rfl,?_⟩;(try refine An dn ?_);apply z;clear z K)
      refine A0.tt rfl ?_
      (refine sG Bq [] 9 [] fun K z=>?_;refine ev ?_;refine ci (E7 hd) ?_;refine cc a5 ?_;apply z;clear z K)
      exact aR
     ·(refine sG Bq [] 7 [] fun K z=>?_;refine ev ?_;refine⟨by omega,_,E7 hd,rfl,?_⟩;(try refine An hn ?_);apply z;clear z K)
      refine A0.ff rfl (A0.kk (u3 _ _ ?_));clear u3 K3
      (refine lV Bq fun K z=>?_;refine⟨by first| (unfold B7;omega)| (simp only [B7,sm] at *;omega),?_⟩;apply z;clear z K;try simp only [A4,])
      refine⟨(),?_,(by simp [sle,Aw,Ae,Ft,Ce]),sB⟩;intro y hy;rw [tk,Bw] at hy;rcases hy with hy| hy
      ·exact hI y hy
      ·simp only [Qt] at hy;subst hy;exact Ci hn
    intro _ hI;rw [Cs] at hI;obtain rfl:R=Js e.pos:=by rw [←E];exact ac (Th hI)
    refine sK fun K3 u3=>?_
    (refine sQ Bq fun K z=>?_;simp -implicitDefEqProofs only [EV,Nat.reduceEqDiff,reduceCtorEq,Uv,Ft,B4];apply z;clear z K)
    refine A0.ss rfl ?_;simp only [A4,Aa,Af];refine u2 _ _ ?_;refine sC I Bq ?_;exact aR
  ·have n2:¬e.kind=2:=by omega
   have n4:¬e.kind=4:=by omega
   have e5:=Bn k;refine sK fun J u1=>?_
   (refine sQ Bq fun K z=>?_;simp -implicitDefEqProofs only [EV,Nat.reduceEqDiff,reduceCtorEq,Jw,A2h,Jj,T4,n2,n4,e5,a1];apply z;clear z K)
   refine kI u1 ?_;clear u1 J
   (refine sG Bq [] 12 [⟨[],[],[9,10],[9,10]⟩,⟨[],[],[9,10],[9,10]⟩,⟨[],[],[9,10],[9,10]⟩,⟨[],[],[9,10],[9,10]⟩,⟨[],[],[9,10],[9,10]⟩,⟨[],[],[9,10],[9,10]⟩,⟨[],[],[9,10],[9,10]⟩,⟨[],[],[9,10],[9,10]⟩,⟨[],[],[9,10],[9,10]⟩,⟨[9],[9],[10],[10]⟩,⟨[10],[10],[9],[9]⟩,⟨[9],[],[],[]⟩] fun K z=>?_;refine ev ?_;refine cj (Ed h0) ?_;refine cc hT ?_;apply z;clear z K)
   (refine A0.zz 9 rfl rfl ?_;refine A0.zz 10 rfl rfl (wk [(2,.Ag (Ft c) 0),(3,.Ag (Ce e) 0),(4,.box 4 0),(5,.box 5 0),(9,.Ag (Bh x) 0),(10,.Ag [.int .i64 q,.bool b,.bool lg] 0)] [(4,Wq),(5,I8)] ?_))
   cases b with
   |true =>
    rw [A8 rfl] at E;subst E;refine kR Bq fun J u1=>?_;refine tI ?_
    (refine sG Bq [] 3 [⟨[],[],[],[]⟩,⟨[],[],[4],[]⟩,⟨[4],[],[],[]⟩] fun K z=>?_;refine ev ?_;apply z;clear z K)
    exact aR
   |false =>
    rw [A6 (by simp),A6 n2,A6 n4] at E;unfold B0i at E;refine kR Bq fun J u1=>?_;refine kI u1 ?_;clear u1 J;refine sK fun J u1=>?_
    (refine sQ Bq fun K z=>?_;simp -implicitDefEqProofs only [EV,Nat.reduceEqDiff,reduceCtorEq,Jw,Jj,Ft,n2];apply z;clear z K)
    refine kI u1 ?_;clear u1 J;refine Ai n4 Bq fun J u1=>?_;refine kI u1 ?_;clear u1 J;cases ho:C0 c.p c.env e.type with
    |some n =>rw [ho] at O E;simp only [Sx] at O E;have a2:=A8r n;subst E;refine sC O Bq ?_;refine kR Bq fun J u1=>?_;refine tI ?_;refine sC a2 Bq ?_;exact aR
    |none =>
     rw [ho] at O E;simp only [Sx] at O E;refine sC O Bq ?_;refine kR Bq fun J u1=>?_;refine kI u1 ?_;clear u1 J;have ai:=A6h c.env x U.el;have V:=E1g c U x;have W:=E1g c U e.type;refine sK fun J u1=>?_;rcases Fg c.strict with hst| hst
     rotate_left
     ·rw [A6 (fun hh=>by rw [hst] at hh;cases hh.1)] at E;subst E;refine Ah hst Bq ?_;refine A0.ff rfl (A0.kk (u1 _ _ ?_))
      (refine sG Bq [] 4 [⟨[],[],[],[]⟩,⟨[],[],[],[]⟩,⟨[],[],[4],[]⟩,⟨[4],[],[],[]⟩] fun K z=>?_;refine ev ?_;apply z;clear z K)
      exact aR
     ·refine sR Bq ?_;refine A0.cond rfl (fun _=>?_) (fun hf=>absurd (hst.symm.trans hf) (by decide));refine sR Bq ?_;refine sC ai Bq ?_;refine sK fun K2 u2=>?_;by_cases h0:0≤Ev c.env x
      ·obtain⟨f,hf,_⟩:=A7d (env:=c.env) (t:=x) (by omega);have a':=G1f h0 hf;have hi:=A9k c.p U.p c.env U.el U.env e.type f.bound he.type (U.env f (Bx hf)).bound;have a7:Dj c.p c.env e.type (Z0 c x)=Dj c.p c.env e.type f.bound:=by rw [a']
       rw [←a7] at hi;refine Ah h0 Bq ?_;refine A0.tt rfl ?_
       (refine lV Bq fun K z=>?_;refine⟨h0,_,Ep hf,rfl,?_⟩;(try refine ev ?_);apply z;clear z K;try simp only [A4,])
       refine u2 _ _ ?_;clear u2 K2;rcases Fg (A1r c x) with ha| ha
       rotate_left
       ·rw [A8 ⟨hst,by unfold Qw;rw [ha];rfl⟩] at E;subst E;rw [ha] at V;refine sC V Bq ?_;refine tI ?_;refine sC I Bq ?_;exact aR
       rw [ha] at V;rcases Fg (A1r c e.type) with hb| hb
       ·rw [A6 (fun hh=>by have:=hh.2;unfold Qw at this;rw [ha,hb] at this;cases this)] at E;subst E;rw [hb] at W
        (refine sV Bq fun K z=>?_;refine cc V ?_;refine cc W ?_;apply z;clear z K)
        refine A0.ff rfl (A0.kk (u1 _ _ ?_))
        (refine sG Bq [] 4 [⟨[],[],[],[]⟩,⟨[],[],[],[]⟩,⟨[],[],[4],[]⟩,⟨[4],[],[],[]⟩] fun K z=>?_;refine ev ?_;apply z;clear z K)
        exact aR
       rw [hb] at W;rcases Fg (Dj c.p c.env e.type (Z0 c x)) with hm| hm
       ·rw [A6 (fun hh=>by have:=hh.2;unfold Qw at this;rw [ha,hb,hm] at this;cases this)] at E;subst E;rw [hm] at hi
        (refine sV Bq fun K z=>?_;refine cc V ?_;refine cc W ?_;refine cc hi ?_;apply z;clear z K)
        refine A0.ff rfl (A0.kk (u1 _ _ ?_))
        (refine sG Bq [] 4 [⟨[],[],[],[]⟩,⟨[],[],[],[]⟩,⟨[],[],[4],[]⟩,⟨[4],[],[],[]⟩] fun K z=>?_;refine ev ?_;apply z;clear z K)
        exact aR
       ·rw [A8 ⟨hst,by unfold Qw;rw [ha,hb,hm];rfl⟩] at E;subst E;rw [hm] at hi
        (refine sV Bq fun K z=>?_;refine cc V ?_;refine cc W ?_;refine cc hi ?_;apply z;clear z K)
        refine tI ?_;refine sC I Bq ?_;exact aR
      ·have a':=F1n h0;have hi:=A9k c.p U.p c.env U.el U.env e.type x he.type a4;have a7:Dj c.p c.env e.type (Z0 c x)=Dj c.p c.env e.type x:=by rw [a']
       rw [←a7] at hi;refine Ah h0 Bq ?_;refine A0.ff rfl (A0.kk (u2 _ _ ?_));clear u2 K2;rcases Fg (A1r c x) with ha| ha
       rotate_left
       ·rw [A8 ⟨hst,by unfold Qw;rw [ha];rfl⟩] at E;subst E;rw [ha] at V;refine sC V Bq ?_;refine tI ?_;refine sC I Bq ?_;exact aR
       rw [ha] at V;rcases Fg (A1r c e.type) with hb| hb
       ·rw [A6 (fun hh=>by have:=hh.2;unfold Qw at this;rw [ha,hb] at this;cases this)] at E;subst E;rw [hb] at W
        (refine sV Bq fun K z=>?_;refine cc V ?_;refine cc W ?_;apply z;clear z K)
        refine A0.ff rfl (A0.kk (u1 _ _ ?_))
        (refine sG Bq [] 4 [⟨[],[],[],[]⟩,⟨[],[],[],[]⟩,⟨[],[],[4],[]⟩,⟨[4],[],[],[]⟩] fun K z=>?_;refine ev ?_;apply z;clear z K)
        exact aR
       rw [hb] at W;rcases Fg (Dj c.p c.env e.type (Z0 c x)) with hm| hm
       ·rw [A6 (fun hh=>by have:=hh.2;unfold Qw at this;rw [ha,hb,hm] at this;cases this)] at E;subst E;rw [hm] at hi
        (refine sV Bq fun K z=>?_;refine cc V ?_;refine cc W ?_;refine cc hi ?_;apply z;clear z K)
        refine A0.ff rfl (A0.kk (u1 _ _ ?_))
        (refine sG Bq [] 4 [⟨[],[],[],[]⟩,⟨[],[],[],[]⟩,⟨[],[],[4],[]⟩,⟨[4],[],[],[]⟩] fun K z=>?_;refine ev ?_;apply z;clear z K)
        exact aR
       ·rw [A8 ⟨hst,by unfold Qw;rw [ha,hb,hm];rfl⟩] at E;subst E;rw [hm] at hi
        (refine sV Bq fun K z=>?_;refine cc V ?_;refine cc W ?_;refine cc hi ?_;apply z;clear z K)
        refine tI ?_;refine sC I Bq ?_;exact aR
theorem B9y {p:Prog} (h:p.Sm)(st:Bool) {d:Decl} (hd:d.Sm)(I:d.Two)(E:d.sig.params.length+1≤sm):(Mu p st d).Sm:=by
 refine⟨h,?_,?_,?_,?_⟩
 ·show (H2 p d++d.sig.A1).length≤sm;have:=C2v p d;have:=I.sig;rw [B3];omega
 ·intro f hf;rcases Bw.1 hf with hf| hf
  ·exact D5i h hd f hf
  ·exact hd.sig.A1.2 f hf
 ·show (⟨d.recv,A7s d,0⟩::d.sig.params:List Param).length≤sm;rw [Bg];exact E
 ·intro f hf;rcases As.1 hf with rfl| hf
  ·refine⟨hd.recv,.mk _ _ _ hd.name (by simp only [H0,B6];exact hd.vars.1) (D6i hd)⟩
  ·exact hd.sig.params.2 f hf
abbrev z49:Ar:=.cells [.d .nil,.d (.int .i64 0),.d (.str []),.d (.str []),.d .nil,.d (.int .i64 0),.d .nil,.d .nil,.d (.int .i64 0),.d (.bool false),.d .nil,.d .nil]
abbrev Vx:List Nat:=[0,1,2,3,5,6,7,8,9,17,36,46,900]
theorem D3g (p:Prog)(h:p.Sm)(st:Bool)(d:Decl)(hd:d.Sm)(V:d.Two)(U:d.sig.params.length+1≤sm):Ac prog 148 [Cv p,B0 st,Iy d] (Uu (Mu p st d)):=by
 have E:=E2r p h d hd;have L:=C2v p d;have a1:=hd.vars.1;have a0:=V.sig;have W:Az (Mu p st d).env=Az (H2 p d)++Az d.sig.A1:=by simp [Mu,Az]
 unfold Uu;rw [W];show Ac prog 148 [Cv p,B0 st,Iy d] (.agg [.d (.slice (Bu p.decls)),.d (.int .i64 p.main.kind),.d (.str p.main.name),.d (.str p.main.type.name),.d (.slice (Aq p.main.type.args)),.d (.int .i64 p.main.type.pos),.d (.slice (Aq p.main.targs)),.d (.slice (Db p.main.kids)),.d (.int .i64 p.main.pos),.d (.bool st),.d (.slice (Az (H2 p d)++Az d.sig.A1)),.d (.slice ([[.str d.recv,.str d.name,.slice (Aq (H0 d.vars)),.int .i64 0,.int .i64 0]]++B5 d.sig.params))]);have R:(Az (H2 p d)).length≤d.vars.length:=by simpa [Az] using L
 generalize Az (H2 p d)=ER at *;refine cB func148 ?_;refine sR Vx ?_
 (refine A0.zz 3 rfl rfl ?_;refine A0.zz 5 rfl rfl (wk [(1,B0 st),(3,.Ag (Aj p) 0),(5,.Ag (Bc d) 0),(6,.box 6 0)] [(6,z49)] ?_))
 refine sR Vx ?_;refine A0.No 900 3 7 1 rfl rfl (by decide) ?_;refine kR Vx fun K1 u1=>?_;refine A0.bb (A0.ii d.vars (X:=Unit) (fun j _=>[(1,B0 st),(3,.Ag (Aj p) 0),(5,.Ag (Bc d) 0),(6,.box 6 0),(7,.box 7 0),(8,A9 j)]) (fun j _=>[(6,z49),(7,.cells [.d (.str d.name),.acc 900,.d (.int .i64 0)]),(900,.rows 3 (Aq (H0 (d.vars.take j))))])
  (fun _ _=>True) () trivial (by simp [sle,Aw,Ae,Bc,Aj]) (by simp [ble,A7,Cc,H0]) ?_ ?_)
 rotate_left
 ·intro j _ s hs O dp Z J _;rw [Z];refine Ai J Vx fun I u2=>?_;refine gI u2 ?_;clear u2 I;refine sK fun I u2=>?_;refine A0.bb ?_
  (refine lG Vx [] 9 [] fun K z=>?_;refine ev ?_;refine ci (La hs) ?_;refine⟨by simp,by simp only [H0,B6,Cw];unfold lim sm at *;omega,?_⟩;(try refine ev ?_);apply z;clear z K;try simp only [A4,Aa])
  refine u2 _ _ ?_;clear u2 I;refine lT Vx ?_;exact⟨(),trivial,(by simp [sle,Aw,Ae,Bc,Aj]),by simp [ble,A7,Cc,H0,Bh,Ty.name,Ty.args,Ty.pos]⟩
 intro _ _;rw [Cs];refine Ai B4 Vx fun I u2=>?_;refine A0.ss rfl ?_;simp only [A4,Aa,Af];refine u1 _ _ ?_;clear u2 I u1 K1
 (refine A0.Kx 900 rfl (wk [(1,B0 st),(3,.Ag (Aj p) 0),(5,.Ag (Bc d) 0),(6,.box 6 0),(7,.box 7 0)] [(6,z49),(7,.cells [.d (.str d.name),.d (.slice (Aq (H0 d.vars))),.d (.int .i64 0)])] ?_))
 refine sR Vx ?_
 (refine sG Vx [36] 6 [⟨[],[],[],[]⟩,⟨[],[],[],[]⟩,⟨[36],[36],[],[]⟩,⟨[],[],[36],[36]⟩,⟨[],[],[36],[36]⟩,⟨[],[],[36],[36]⟩] fun K z=>?_;refine ev ?_;refine⟨_,_,_,_,_,rfl,E,?_⟩;(try refine ev ?_);refine⟨B7v _,by unfold lim sm at *;omega,?_⟩;(try refine ev ?_);apply z;clear z K)
 (refine A0.F6 Vx [46] (by decide +kernel) fun K z=>?_;refine ev ?_;refine⟨F4z _,by unfold lim sm at *;omega,?_⟩;(try refine ev ?_);apply z;clear z K)
 (refine A0.Kx 36 rfl ?_;refine A0.Kx 46 rfl (wk [(6,.box 6 0),(9,.box 9 0)] [(6,z49),(9,.cells [.d (.slice (Bu p.decls)),.d (.int .i64 p.main.kind),.d (.str p.main.name),.d (.str p.main.type.name),.d (.slice (Aq p.main.type.args)),.d (.int .i64 p.main.type.pos),.d (.slice (Aq p.main.targs)),.d (.slice (Db p.main.kids)),.d (.int .i64 p.main.pos),.d (.bool st),.d (.slice (ER++Az d.sig.A1)),.d (.slice ([[.str d.recv,.str d.name,.slice (Aq (H0 d.vars)),.int .i64 0,.int .i64 0]]++B5 d.sig.params))])] ?_))
 refine sR Vx ?_;exact aR
abbrev A4x:List Nat:=[0,1,2,3,6,7,25]
theorem G2d (p:Prog)(h:p.Sm)(st:Bool)(i:Nat)(d:Decl)(hd:p.decls[i]? = some d)(R:d.Two)(J:d.sig.params.length+1≤sm):Ac prog 78 [Cv p,B0 st,A9 i] (Kv (A0n p st d)):=by
 have Z:=(Ay.1 hd).1;have V:¬(i:Int) < 0:=by omega
 have U:¬(i:Int) ≥ (p.decls.length:Int):=by omega
 have E:=h.decls.2 d (Bx hd);have I:=B9y h st E R J;have O:=D3g p h st d E R J;have L:=C7o (Mu p st d) I d.body (C1v _ I d.body E.body) (A9i I d.body E.body) d.sig.result E.sig.result;unfold A0n;generalize Up (Mu p st d) d.sig.result d.body (Dg (Mu p st d) d.body)=r at *;generalize Mu p st d=c at *;by_cases k3:d.kind=3
 ·rw [A8 k3];have d3:=Bn k3;refine cB func78 ?_;refine sR A4x ?_;refine sK fun W u1=>?_
  (refine sQ A4x fun K z=>?_;refine Gj V U ?_;refine⟨by omega,_,E2 hd,rfl,?_⟩;(try simp -implicitDefEqProofs only [EV,Nat.reduceEqDiff,reduceCtorEq,T4,d3]);apply z;clear z K)
  refine kI u1 ?_;clear u1 W
  (refine sV A4x fun K z=>?_;refine ci (E2 hd) ?_;apply z;clear z K)
  (refine sG A4x [] 9 [] fun K z=>?_;refine ev ?_;refine cc O ?_;refine cc L ?_;apply z;clear z K)
  exact aR
 ·rw [A6 k3];refine cB func78 ?_;refine sR A4x ?_;refine sK fun W u1=>?_
  (refine sQ A4x fun K z=>?_;refine Gj V U ?_;refine⟨by omega,_,E2 hd,rfl,?_⟩;(try refine An k3 ?_);apply z;clear z K)
  refine tI ?_;refine sR A4x ?_;exact aR
structure Prog.Fit (p:Prog):Prop where
 sm:p.Sm
 len:p.decls.length≤100000
 two:∀d,d∈p.decls→d.Two
 par:∀d,d∈p.decls→d.sig.params.length+1≤Go.Abs.sm
theorem A5.C5q (s:A5)(n:Int)(J:0≤n)(h:s.count n≤2000):s.params.length≤2000:=by unfold A5.count at h;obtain⟨O,L⟩:=A4v s.A1 (n+((s.name.length / 50:Nat):Int));obtain⟨I,E⟩:=A4q s.params (C7 s.A1 (n+((s.name.length / 50:Nat):Int)));have R:=Ty.F4 s.result (D5 s.params (C7 s.A1 (n+((s.name.length / 50:Nat):Int))));have:=(E (by omega) (by omega)).1;omega
theorem Decl.C5q (d:Decl)(n:Int)(L:0≤n)(h:d.count n≤2000):d.sig.params.length≤2000:=by
 unfold Decl.count at h;generalize O:n+1+((d.name.length / 50:Nat):Int)+((d.recv.length / 50:Nat):Int)=m at h;obtain⟨U,R⟩:=A4v d.A1 m;obtain⟨E,Z⟩:=A4q d.fields (C7 d.A1 m);obtain⟨c1,V⟩:=D8i d.sigs (D5 d.fields (C7 d.A1 m));obtain⟨I,J⟩:=A2t d.vars (Eh d.sigs (D5 d.fields (C7 d.A1 m)));generalize hz:Ii d.vars (Eh d.sigs (D5 d.fields (C7 d.A1 m)))=z at *;unfold Decl.Ry at h;have W:=Ex.F4 d.body (d.sig.count z);split at h
 ·exact A5.C5q d.sig z (by omega) (by omega)
 ·omega
theorem E7v:N3 Ik (fun d=>d.sig.params.length≤2000):=Ly Ik Decl.count (fun d=>d.sig.params.length≤2000) (fun _=>rfl) (fun _ _ _=>rfl) (fun x k=>(Decl.Gv x k).1) (fun x k E h=>Decl.C5q x k E h)
theorem Prog.Zp (p:Prog)(h:p.count≤600):p.Fit:=by have E:=Prog.Np p h;have hs:=Prog.Gv p h;refine⟨hs.1,by have:=hs.2;omega,fun d hd=>(E.decls d hd).two,fun d hd=>?_⟩;unfold Prog.count at h;have J:=Ex.F4 p.main 0;obtain⟨L,I⟩:=E7v p.decls (p.main.count 0);have:=(I (by omega) (by omega)).2 d hd;unfold Go.Abs.sm;omega
abbrev Pd:List Nat:=[0,1,2,4,5,6,8,13,21,27]
theorem F0v (p:Prog)(h:p.Fit)(st:Bool):Ac prog 36 [Cv p,B0 st] (Kv (A4o p st)):=by
 have a1:=h.sm.decls.1;have W:(⟨p,st,[],[]⟩:Dd).Sm:=⟨h.sm,by simp,by simp,by simp,by simp⟩;have a0:=C1v ⟨p,st,[],[]⟩ W p.main h.sm.main;generalize hR:A4o p st=R;unfold A4o at hR;refine cB func36 ?_;refine sR Pd ?_
 (refine A0.zz 2 rfl rfl (wk [(1,B0 st),(2,.Ag (Aj p) 0),(4,.box 4 0)] [(4,I8)] ?_))
 refine kR Pd fun K1 u1=>?_;refine A0.bb (A0.ii p.decls (X:=Unit) (fun j _=>[(1,B0 st),(2,.Ag (Aj p) 0),(4,.box 4 0),(5,A9 j)]) (fun _ _=>[(4,I8)])
  (fun j _=>Zr p st (p.decls.drop j) j=R) () hR (by simp [sle,Aw,Ae,Aj]) sB ?_ ?_)
 rotate_left
 ·intro j _ d hd J dp tk Z E;have I:=F4g p h.sm h.len j d hd (h.two d J);have V:=G2d p h.sm st j d hd (h.two d J) (h.par d J);rw [dp,Zr] at E;refine Ai Z Pd fun O u2=>?_;refine gI u2 ?_;clear u2 O;refine sK fun O u2=>?_;refine A0.bb ?_;cases ho:Wb p j d with
  |some q =>rw [ho] at I E;simp only [Kv,Hs,Lr] at I E;refine sC I Pd ?_;refine kR Pd fun U L=>?_;refine A0.ff rfl (A0.kk (L _ _ ?_));clear L U;refine sR Pd ?_;refine A0.tt rfl ?_;refine sR Pd ?_;rw [←E];exact aR
  |none =>
   rw [ho] at I E;simp only [Kv,Hs,Nw] at I E;generalize A0n p st d=r at *;obtain⟨q,b,l⟩:=r;refine sC I Pd ?_;refine kR Pd fun U L=>?_;refine A0.tt rfl ?_
   (refine lV Pd fun K z=>?_;refine cc V ?_;apply z;clear z K;try simp only [A4,])
   refine L _ _ ?_;clear L U;refine sR Pd ?_;cases b with
   |true =>rw [A8 rfl] at E;refine A0.tt rfl ?_;refine sR Pd ?_;rw [←E];exact aR
   |false =>rw [A6 (by simp)] at E;refine A0.ff rfl (A0.kk (u2 _ _ ?_));clear u2 O;refine lT Pd ?_;exact⟨(),E,(by simp [sle,Aw,Ae,Aj]),sB⟩
 intro _ E;rw [D6,Zr] at E;refine Ai B4 Pd fun O u2=>?_;refine A0.ss rfl ?_;simp only [A4,Aa,Af];refine u1 _ _ ?_;clear u2 O u1 K1;generalize Dg ⟨p,st,[],[]⟩ p.main=z at *;obtain⟨x,r⟩:=z;simp only at E;subst E;refine sC a0 Pd ?_;refine sR Pd ?_;exact aR
end Go.Abs
