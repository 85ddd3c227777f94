/- the calls on types that any type implements are those of the reference implementation -/
import Derived.Test.YtcmlfpcaeflleaaGreatDoorGCG21
import Derived.Test.YtcmlfpcaeflleaaGreatDoorGYY
set_option linter.all false
set_option maxHeartbeats 4000000
set_option maxRecDepth 100000
namespace Go.Abs
open Go Go.Proofs Tryz
variable {P:Program}
variable {H:Type} {enc:TypeId × Value->H}
theorem F3p{W:World}{base:Nat}{v:Value}{d:DataW H}{ps:List MemPlace}(E:Value.okWide Tryz.prog W .any base 25 v)
  (h:DataW.Trod enc Tryz.prog W 0 (λ_=>true) true 25 v d ps)(L:∀k,k∈d.weights Tryz.prog 25->k<=reachBytes)(β:Names):∃t:Ty,Ak (all W) W β (B6 t) v:=by
 obtain⟨n,ds,J,I⟩:=E3r D5r (by simp[C9b]) underlying25 E h L β;obtain⟨t,rfl⟩:=B1p n J;exact⟨t,I⟩
end Go.Abs
namespace Go.Abs
open Go Go.Proofs Tryz
end Go.Abs
namespace Go.Abs
open Go Go.Proofs Tryz
theorem G3z(t:Ty):Ac Tryz.prog 15 [B6 t] (Ay (decide (t.count 0<=200))):=by
 refine cB func15 ?_;refine sR [0,1,2] ?_
 (refine sQ [0,1,2] λK E=>?_;refine ev ?_)
 refine⟨A8 (t.count 0),.inl ⟨_,rfl,Zt t 0 (by omega) (by unfold cap;omega),rfl⟩,?_⟩;refine ev ?_
 (apply E;clear E K)
 exact aR
end Go.Abs
namespace Go.Abs
open Go Go.Proofs Tryz
end Go.Abs
namespace Go.Abs
open Go Go.Proofs Tryz
end Go.Abs
namespace Go.Abs
open Go Go.Proofs Tryz
end Go.Abs
namespace Go.Abs
open Go
section
variable {p:Prog} (hs:p.Sm) (ht:∀d,d∈p.decls->d.Tl) (hr:p.right=true)
include hs ht hr
end
theorem B2u{p:Prog}(J:p.Fit)(ht:∀d,d∈p.decls->d.Tl)(hr:p.right=true)(h:(Cp p).2=true):(Cp p).1.Fd:=by have M:=A7h _ _ _ h;obtain⟨U,O,L⟩:=B9d M;have I:=C2o J.sm ht hr;refine⟨A5w J,λt ht=>⟨I.types t ht,by have:=O t ht;omega⟩,λc E=>⟨λt ht=>⟨I.calls c E t ht,?_⟩,L c E⟩,U⟩;have:=L c E;have:=A5u ht;omega
end Go.Abs
namespace Go.Abs
open Go Go.Proofs Tryz
abbrev G5p:Ap:=.cells [.d .nil,.d .nil,.d (.bool false)]
def B0p(p:Prog)(cs:List Ad)(x:Ty):Aj:=(H4 p cs x).foldl Fh ⟨[],[],false⟩
def Vo:Option Aj->Aj
 |none=>⟨[],[],false⟩
 |some o=>o
def bxZ:Option Aj->Ap
 |none=>G5p
 |some o=>.cells (Fx o)
theorem D4w:∀(l:List Ad) {s:Aj},s.Sm->(∀c,c∈l->c.Sm)->(l.foldl Fh s).Sm
 |[],_,hs,_=>hs
 |c::l,_,hs,h=>D4w l (C5w hs (h c (by simp))) λd E=>h d (by simp[E])
abbrev Sr:List Nat:=[0,1,2,3,4,5,6,7,8,14,25]
theorem F9m(p:Prog)(h:p.Sm)(s:Aj)(hs:s.Sm)(x:Ty)(hx:x.Sm):Ac Tryz.prog 17 [D7 p,I1 s,B6 x] (.d (.slice (C7 (B0p p s.calls x).calls))):=by
 have a1:=hs.calls.1;unfold B0p;generalize hR:(H4 p s.calls x).foldl Fh ⟨[],[],false⟩=R;refine cB func17 ?_;refine sR Sr ?_;refine sR Sr ?_;refine kR Sr λK1 u1=>?_;refine A0.bb (A0.ii s.calls (X:=Option Aj) (λj o=>[(3,.box 3 0),(4,.box 4 0),(5,.box 5 0),(7,.box 7 0),(8,A8 j)])
  (λj o=>[(3,.cells ((An p).map .d)),(4,.cells (Fx s)),(5,.cells (Jk x)),(7,bxZ o)])
  (λj o=>(H4 p (s.calls.drop j) x).foldl Fh (Vo o)=R/\(Vo o).Sm) none ⟨hR,⟨by simp[Vo],by simp[Vo]⟩,⟨by simp[Vo],by simp[Vo]⟩⟩ sS (by simp[ble,A7,An,bxZ]) ?_ ?_)
 rotate_left
 .intro j o c J U dp tk a0 I;obtain⟨I,ho⟩:=I;have hc:=hs.calls.2 c U;have L:=A8r p h [] (by simp) (by simp) x c.on hx hc.on;simp only[show Ar ([]:List Am)=[] from rfl]at L;have O:Ad.Sm ⟨x,c.name,c.targs⟩:=⟨hx,hc.name,hc.targs⟩;have E:=E4a (Vo o) ho ⟨x,c.name,c.targs⟩ O;have V:=C5w ho O;rw[dp]at I;unfold H4 at I;rw[Aq8]at I;refine sK λM u2=>?_
  (refine sQ Sr λK z=>?_;simp -implicitDefEqProofs only[EV,Nat.reduceEqDiff,reduceCtorEq,Gb,Hr,a0,Er];apply z;clear z K)
  refine gI u2 ?_;clear u2 M;refine sK λM u2=>A0.bb ?_;cases W:Dd p [] x c.on with
  |false =>
   rw[W]at L;rw[W,A6 (by simp)]at I
   (refine sG Sr [] 8 [] λK z=>?_;refine ev ?_;refine⟨by omega,_,I0 J,rfl,?_⟩;(try simp -implicitDefEqProofs only[EV,Nat.reduceAdd,Nat.reduceEqDiff,Nat.reduceLeDiff,reduceCtorEq,Du]);refine cc L ?_;apply z;clear z K)
   refine A0.ff rfl (A0.kk (u2 _ _ ?_));clear u2 M;refine lT Sr ?_;exact⟨o,⟨I,ho⟩,sS,by simp[ble,A7,An]⟩
  |true =>
   rw[W]at L;rw[W,A9 rfl,Ck,Jp]at I;generalize Z:Fh (Vo o) ⟨x,c.name,c.targs⟩=o2 at*;clear Z
   (refine sG Sr [] 8 [] λK z=>?_;refine ev ?_;refine⟨by omega,_,I0 J,rfl,?_⟩;(try simp -implicitDefEqProofs only[EV,Nat.reduceAdd,Nat.reduceEqDiff,Nat.reduceLeDiff,reduceCtorEq,Du]);refine cc L ?_;apply z;clear z K)
   refine A0.tt rfl ?_;cases o with
   |none =>
    simp only[Vo,bxZ]at E |-;have E:Ac Tryz.prog 49 [.agg [.d (.slice []),.d (.slice []),.d (.bool false)],Nj ⟨x,c.name,c.targs⟩] (I1 o2):=E
    (refine lG Sr [] 15 [] λK z=>?_;refine ev ?_;refine⟨by omega,_,I0 J,rfl,?_⟩;(try simp -implicitDefEqProofs only[EV,Nat.reduceEqDiff,reduceCtorEq,Lq,Gb,Hr,Nb,Du]);refine⟨by omega,_,I0 J,rfl,?_⟩;(try simp -implicitDefEqProofs only[EV,Nat.reduceAdd,Nat.reduceEqDiff,Nat.reduceLeDiff,reduceCtorEq,Hr,Nb,Du]);refine cc E ?_;apply z;clear z K;try simp only[A4,Ab])
    refine u2 _ _ ?_;clear u2 M;refine lT Sr ?_;exact⟨some o2,⟨I,V⟩,sS,by simp[ble,A7,An,bxZ]⟩
   |some o =>
    simp only[Vo,bxZ]at E |-
    (refine lG Sr [] 15 [] λK z=>?_;refine ev ?_;refine⟨by omega,_,I0 J,rfl,?_⟩;(try simp -implicitDefEqProofs only[EV,Nat.reduceEqDiff,reduceCtorEq,Lq,Gb,Hr,Nb,Du]);refine⟨by omega,_,I0 J,rfl,?_⟩;(try simp -implicitDefEqProofs only[EV,Nat.reduceAdd,Nat.reduceEqDiff,Nat.reduceLeDiff,reduceCtorEq,Hr,Nb,Du]);refine cc E ?_;apply z;clear z K;try simp only[A4,Ab])
    refine u2 _ _ ?_;clear u2 M;refine lT Sr ?_;exact⟨some o2,⟨I,V⟩,sS,by simp[ble,A7,An,bxZ]⟩
 intro o I;obtain⟨I,_⟩:=I;rw[De]at I;simp only[H4,As1,Hy,Q3]at I;subst I;refine sK λM u2=>?_
 (refine sQ Sr λK z=>?_;simp -implicitDefEqProofs only[EV,Nat.reduceEqDiff,reduceCtorEq,Gb,Hr,B3,Er];apply z;clear z K)
 refine A0.ss rfl ?_;simp only[A4,Ab,Ae];refine u1 _ _ ?_;clear u2 M u1 K1;cases o with
 |none =>simp only[Vo,bxZ];refine sR Sr ?_;exact aR
 |some o =>simp only[Vo,bxZ];refine sR Sr ?_;exact aR
end Go.Abs
namespace Go.Abs
open Go
theorem B7e{a b c:Ad}(h:Ba a b<0)(k:Ba b c<=0):Ba a c<0:=(A1z a b c).1 h k
theorem F6e{a b c:Ad}(h:Ba a b<=0)(k:Ba b c<0):Ba a c<0:=(A1z a b c).2.1 h k
def T7(l:List Ad):Prop:=l.Pairwise λa b=>Ba a b<0
theorem B9g{l:List Ad}{i:Nat}(h:i<l.length):Cx l i=l[i]:=by simp[Cx,B8 h]
theorem C5k{n i:Nat}(h:i<n):(Array.range n)[i]! =i:=by rw[Ik _ _ (by simpa using h)];simp
theorem D2x{l:List Ad}(hs:l.Pairwise λa b=>Ba a b<=0):T7 (Vs l)/\A2s (Vs l) l/\A2s l (Vs l)/\∀c,c∈Vs l->c∈l:=by
 have L:∀i j,i<=j->j<l.length->Ba (Cx l i) (Cx l j)<=0:=λi j h V=>by
  rcases Nat.lt_or_eq_of_le h with h|rfl
  .rw[B9g V,B9g (by omega)];exact Ao1.1 hs i j (by omega) V h
  .rw[A0k];exact Int.le_refl _
 have key:∀m,m<=l.length->∀r,(M7 (λx y=>decide (Ba (Cx l x) (Cx l y)=0)) (Array.range l.length) m).map (Cx l)=r ->
   T7 r/\(∀c,c∈r->∃i,i<m/\c=Cx l i)/\∀i,i<m->∃c,c∈r/\Ba (Cx l i) c=0:=by
  intro m
  induction m with
  |zero =>intro _ r hr;subst hr;exact⟨by simp[M7,T7],by simp[M7],by omega⟩
  |succ m ih =>
   intro hm r hr;obtain⟨U,O,M⟩:=ih (by omega) _ rfl;rw[A6s,Gg]at hr;generalize(M7 (λx y=>decide (Ba (Cx l x) (Cx l y)=0)) (Array.range l.length) m).map (Cx l)=r0 at*;have W:Lv (λx y=>decide (Ba (Cx l x) (Cx l y)=0)) (Array.range l.length) m=true↔m=0\/Ba (Cx l m) (Cx l (m - 1))≠0:=by unfold Lv;rw[C5k (by omega),C5k (by omega)];simp
   by_cases E:Lv (λx y=>decide (Ba (Cx l x) (Cx l y)=0)) (Array.range l.length) m=true
   .rw[A9 E,Ck,Hy,C5k (by omega)]at hr;subst hr;refine⟨?_,λc hc=>?_,λi I=>?_⟩
    .unfold T7;rw[Ap7];refine⟨U,by simp,λa Z b hb=>?_⟩;rw[Ps.1 hb];obtain⟨i,I,rfl⟩:=O a Z;rcases W.1 E with h0|h0
     .omega
     .have e1:=L i (m - 1) (by omega) (by omega);have e2:=L (m - 1) m (by omega) (by omega);have e3:=Ru (Cx l m) (Cx l (m - 1));exact F6e e1 (by omega)
    .rcases D2.1 hc with hc|hc
     .obtain⟨i,I,e⟩:=O c hc;exact⟨i,by omega,e⟩
     .exact⟨m,by omega,Ps.1 hc⟩
    .by_cases e:i=m
     .subst e;exact⟨_,List.mem_append_right _ (Ps.2 rfl),A0k _⟩
     .obtain⟨c,hc,h⟩:=M i (by omega);exact⟨c,At5 _ hc,h⟩
   .rw[A6 E,Hy,I8]at hr;subst hr;have h0:¬(m=0\/Ba (Cx l m) (Cx l (m - 1))≠0):=λh=>E (W.2 h);refine⟨U,λc hc=>?_,λi I=>?_⟩
    .obtain⟨i,I,e⟩:=O c hc;exact⟨i,by omega,e⟩
    .by_cases e:i=m
     .subst e;obtain⟨c,hc,h⟩:=M (i - 1) (by omega);exact⟨c,hc,A7t (by by_cases e:Ba (Cx l i) (Cx l (i - 1))=0;exact e;exact absurd (.inr e) h0) h⟩
     .exact M i (by omega)
 obtain⟨U,O,M⟩:=key l.length (Bi _) _ rfl;have J:∀c,c∈Vs l->c∈l:=λc hc=>by obtain⟨i,I,rfl⟩:=O c hc;rw[B9g I];exact Fa I
 refine⟨U,λc hc=>⟨c,J c hc,A0k c⟩,λc hc=>?_,J⟩;obtain⟨i,I,rfl⟩:=List.getElem_of_mem hc;obtain⟨d,hd,h⟩:=M i I;rw[B9g I]at h;exact⟨d,hd,h⟩
theorem E2q:∀{l m:List Ad},T7 l->T7 m->A2s l m->A2s m l->l.length=m.length/\∀(i:Nat) c d,l[i]?=some c->m[i]?=some d->Ba c d=0
 |[],[],_,_,_,_=>⟨rfl,by simp⟩
 |[],d::m,_,_,_,h=>by obtain⟨c,hc,_⟩:=h d (by simp);simp at hc
 |c::l,[],_,_,h,_=>by obtain⟨d,hd,_⟩:=h c (by simp);simp at hd
 |c::l,d::m,hl,hm,h1,h2=>by
  have J:=Yy.1 hl;have E:=Yy.1 hm;have I:Ba c d=0:=by
   obtain⟨Z,hd',M⟩:=h1 c (by simp);obtain⟨W,hc',V⟩:=h2 d (by simp);rcases Aw.1 hd' with rfl|hd'
   .exact M
   rcases Aw.1 hc' with rfl|hc'
   .exact Wg V
   have k1:=E.1 Z hd';have k2:=J.1 W hc';have a2:=Ru d W;have s1:=B7e k2 (by omega:Ba W d<=0);have s2:=B7e s1 (by omega:Ba d Z<=0);omega
  have n1:A2s l m:=λx L=>by
   obtain⟨y,hy,e⟩:=h1 x (by simp[L]);rcases Aw.1 hy with rfl|hy
   .have:=J.1 x L;have a1:=Ru x y;have:=A7t I (by omega:Ba y x=0);omega
   .exact⟨y,hy,e⟩
  have n2:A2s m l:=λx L=>by
   obtain⟨y,hy,e⟩:=h2 x (by simp[L]);rcases Aw.1 hy with rfl|hy
   .have:=E.1 x L;have a1:=Ru x y;have:=A7t (Wg I) (by omega:Ba y x=0);omega
   .exact⟨y,hy,e⟩
  obtain⟨M,V⟩:=E2q J.2 E.2 n1 n2;refine⟨by simp[M],λi a b O U=>?_⟩;cases i with
  |zero=>simp at O U;subst O U;exact I
  |succ i=>exact V i a b (by simpa using O) (by simpa using U)
theorem E1t(x:Ad):∀(l out:List Ad),(∀t,t∈l->Ba x t<0)->G3 Ba x l true out=some (out++l)
 |[],out,_=>by rw[G3];simp
 |t::l,out,h=>by have I:=h t (by simp);rw[G3,A6 (by omega),A6 (by simp),E1t x l _ λu E=>h u (by simp[E])];simp
theorem D5u(x:Ad):∀(l out:List Ad),T7 l->(G3 Ba x l false out=none/\∃t,t∈l/\Ba x t=0)\/∃R,G3 Ba x l false out=some (out++R)/\T7 R/\∀t,t∈R↔t=x\/t∈l
 |[],out,_=>.inr ⟨[x],by rw[G3];simp,by simp[T7],by simp⟩
 |t::l,out,hs=>by
  have E:=Yy.1 hs;rw[G3];by_cases J:Ba x t=0
  .exact .inl ⟨by rw[A9 J],t,by simp,J⟩
  rw[A6 J];by_cases I:Ba x t<0
  .rw[A9 ⟨I,rfl⟩,E1t x l _ λu hu=>B7e I (by have:=E.1 u hu;omega)];refine .inr ⟨x::t::l,by simp,?_,by simp⟩;exact Yy.2 ⟨λu hu=>by
    rcases Aw.1 hu with rfl|hu
    .exact I
    .exact B7e I (by have:=E.1 u hu;omega),hs⟩
  .rw[A6 λh=>I h.1];rcases D5u x l (out++[t]) E.2 with⟨e,u,hu,h⟩|⟨R,e,M,L⟩
   .exact .inl ⟨e,u,by simp[hu],h⟩
   .refine .inr ⟨t::R,by rw[e];simp,Yy.2 ⟨λu hu=>?_,M⟩,λu=>?_⟩
    .rcases(L u).1 hu with rfl|hu
     .have:=Ru u t;omega
     .exact E.1 u hu
    .rw[Aw,L,Aw];constructor
     .rintro(h|h|h) <;> simp[h]
     .rintro(h|h|h) <;> simp[h]
theorem G4z(l:List Ad)(x:Ad)(hs:T7 l):T7 (J8 Ba l x)/\(∀t,t∈J8 Ba l x->t=x\/t∈l)/\(∀t,t∈l->t∈J8 Ba l x)/\∃t,t∈J8 Ba l x/\Ba x t=0:=by
 unfold J8;rcases D5u x l [] hs with⟨e,u,J,h⟩|⟨R,e,I,E⟩
 .rw[e];exact⟨hs,λt ht=>.inr ht,λt ht=>ht,u,J,h⟩
 .rw[e];simp only[Vt,E1];exact⟨I,λt ht=>(E t).1 ht,λt ht=>(E t).2 (.inr ht),x,(E x).2 (.inl rfl),A0k x⟩
theorem D1d:∀(l:List Ad)(s:Aj),T7 s.calls->s.calls.length+l.length<=101->T7 (l.foldl Fh s).calls/\(∀t,t∈(l.foldl Fh s).calls->t∈l\/t∈s.calls)/\(∀t,t∈s.calls->t∈(l.foldl Fh s).calls)/\A2s l (l.foldl Fh s).calls
 |[],s,hs,_=>⟨hs,λt ht=>.inr ht,λt ht=>ht,λc hc=>by simp at hc⟩
 |x::l,s,hs,J=>by
  simp only[C6]at J;obtain⟨L,O,M,t0,E,U⟩:=G4z s.calls x hs;have hp:(Fh s x).calls=J8 Ba s.calls x:=by unfold Fh;rw[A6 (by omega)]
  have I:=(Zh (cmp:=Ba) (x:=x) s.calls).1;obtain⟨k1,k2,k3,k4⟩:=D1d l (Fh s x) (by rw[hp];exact L) (by rw[hp];omega);rw[hp]at k2 k3;rw[Jp];refine⟨k1,λt ht=>?_,λt ht=>k3 t (M t ht),λc hc=>?_⟩
  .rcases k2 t ht with h|h
   .exact .inl (by simp[h])
   .rcases O t h with rfl|h
    .exact .inl (by simp)
    .exact .inr h
  .rcases Aw.1 hc with rfl|hc
   .exact⟨t0,k3 t0 E,U⟩
   .exact k4 c hc
end Go.Abs
namespace Go.Abs
open Go
theorem G4m{p:Prog}{cs rs:List Ad}{x:Ty}(hn:rs.length<=100)(h:A3k cs rs){I:List Ad}(hp:I.Perm (H4 p cs x))(hs:I.Pairwise λa b=>Ba a b<=0):A3k (Vs I) (B0p p rs x).calls:=by
 obtain⟨a1,a2,O,Z⟩:=D2x hs;have hl:=C9h p rs x;obtain⟨b1,W,b3,U⟩:=D1d (H4 p rs x) ⟨[],[],false⟩ (by simp[T7]) (by simp only[Dy];omega);have V:∀c,c∈(B0p p rs x).calls->c∈H4 p rs x:=λc E=>(W c E).elim id λh=>by simp at h
 exact E2q a1 b1 (λc E=>by
  obtain⟨d,J,e⟩:=h.H4 p x c (hp.mem_iff.1 (Z c E));obtain⟨f,L,M⟩:=U d J;exact⟨f,L,A7t e M⟩) λc E=>by
  obtain⟨d,J,e⟩:=h.symm.H4 p x c (V c E);obtain⟨f,L,M⟩:=O d (hp.mem_iff.2 J);exact⟨f,L,A7t e M⟩
end Go.Abs
namespace Go.Abs
open Go Go.Proofs Tryz
abbrev Kv:List Nat:=[0,1,2,3,4,5,6,7,8,9,10,11,23,31,53,57,69]
theorem G6q(p:Prog)(x:Ty):Ac Tryz.prog 5 [D7 p,B6 x] (Ay true):=by
 have I:=B6v;have V:=B5v p;have O:=G3z x;cases gb:Yz p with
 |false =>
  rw[gb,A6 (by simp)]at V;refine cB func5 ?_;refine sR Kv<|sK λJ u1=>?_
  (refine sV Kv λK z=>?_;refine cc I ?_;refine cc V ?_;apply z;clear z K)
  refine tI ?_;refine sC I Kv ?_;exact aR
 |true =>
 rw[gb,A9 rfl]at V;obtain⟨hp,hr,a2⟩:=B1m gb;have E:=Prog.V8 p hp;have hF:=C0o p E (Prog.Sk p hp) (B9w hr) (B7g hr);unfold fiV at hF;by_cases gx:x.count 0<=200;rotate_left
 .rw[Ce gx]at O;refine cB func5 ?_;refine sR Kv<|sK λJ u1=>?_
  (refine sV Kv λK z=>?_;refine cc I ?_;refine cc V ?_;refine cc O ?_;apply z;clear z K)
  refine tI ?_;refine sC I Kv ?_;exact aR
 rw[Bo gx]at O;have U:x.Sm:=(Ty.Gi x 0 (by omega) (by omega));cases hb:(Cp p).2 with
 |false =>
  rw[hb]at hF;generalize(Cp p).1=s at*;refine cB func5 ?_;refine sR Kv<|sK λJ u1=>?_
  (refine sV Kv λK z=>?_;refine cc I ?_;refine cc V ?_;refine cc O ?_;apply z;clear z K)
  refine kI u1 ?_;clear u1 J;refine sC hF Kv ?_;refine kR Kv λJ u1=>?_;refine tI ?_;refine sR Kv ?_;exact aR
 |true =>
  have W:=A5w E;have ag:=(B2u E (Prog.U9 p hp) hr hb).len;have aa:=A7e hp a2 hb 60;have a':=λ(ts:List Ty) (cs:List Ad)=>B5b hp hb a2 (ts:=ts) (cs:=cs);have a9:=F9m p E.sm (Cp p).1 W x U;rw[hb]at hF;generalize(Cp p).1=s at*;refine G5.one ?_
  (refine G5.L5 func5 rfl (by decide) (by rw[ntmps5];simp) ?_;rw[ntmps5])
  refine sR Kv<|sK λJ u1=>?_
  (refine sV Kv λK z=>?_;refine cc I ?_;refine cc V ?_;refine cc O ?_;apply z;clear z K)
  refine kI u1 ?_;clear u1 J;refine sC hF Kv ?_;refine kR Kv λJ u1=>?_;refine kI u1 ?_;clear u1 J;refine A0.M0 [2,3,5,7,8] [] 1 _ rfl rfl (by decide +kernel) λK hK=>?_;simp only[Ia,Ig];refine ev ?_;refine⟨_,A0x rfl rfl rfl aa Wo.closed,?_⟩;rintro r a5 ⟨⟨a4,rfl⟩|⟨ae,ts,cs,rfl,hit,ac,ht,hc⟩,rfl⟩
  .exfalso;omega
  simp only[Ho,Kr,Hm,];refine ev ?_;refine hK _ _ ?_;clear hK K;obtain⟨f1,f2⟩:=a' ts cs hit ac ht hc;have a6:=D4p p E.sm ts cs f1.calls.1 f1.calls.2 x U;refine A0.M0 [2,3,5,8,9] [] 3 _ rfl rfl (by decide +kernel) λK hK=>?_;simp only[Ia,Ig];refine ev ?_;refine⟨_,A0x rfl rfl rfl a6 (by rintro r ⟨_,_,_,rfl⟩;rfl),?_⟩;rintro r a5 ⟨⟨l',Z,a3,rfl⟩,rfl⟩;simp only[Ho,Kr,Hm,];refine ev ?_;refine hK _ _ ?_;clear hK K;have a8:=G4m (p:=p) (x:=x) (by omega) (show A3k cs s.calls from hc) Z a3;have ab:∀c,c∈Vs l'->c.Sm:=λc a7=>C5m U f1.calls.2 c (Z.mem_iff.1 ((D2x a3).2.2.2 c a7));have af:(B0p p s.calls x).calls.length<=sm:=(D4w (H4 p s.calls x) (s:=⟨[],[],false⟩) ⟨by simp,by simp⟩ (C5m U W.calls.2)).calls.1;generalize(B0p p s.calls x).calls=M at*;generalize Vs l'=L at*;obtain⟨sl,sc⟩:=a8;have ad:(L.length:Int)=M.length:=by rw[sl]
  refine sC a9 Kv<|sK λJ u1=>?_
  (refine sQ Kv λK z=>?_;simp -implicitDefEqProofs only[EV,Nat.reduceEqDiff,reduceCtorEq,Gb,P9,ad,Er,];apply z;clear z K)
  refine kI u1 ?_;clear u1 J;refine kR Kv λJ u1=>?_;refine A0.bb (A0.ii L (X:=Unit) (λj _=>[(9,.d (.slice (C7 L))),(10,.d (.slice (C7 M))),(11,A8 j)]) (λ_ _=>[])
   (λ_ _=>True) () trivial sS sB ?_ ?_)
  rotate_left
  .intro j _ t ht a0 dp tk a4 _;have a1:j<M.length:=by rw[<-sl];exact(B5.1 ht).1
   have hu:=B8 a1;have hs:=B2o t (ab t a0) M[j];rw[sc j t _ ht hu]at hs;generalize M[j]=u at*;refine sK λK2 u2=>?_
   (refine sQ Kv λK z=>?_;simp -implicitDefEqProofs only[EV,Nat.reduceEqDiff,reduceCtorEq,P9,a4,Er];apply z;clear z K)
   refine gI u2 ?_;clear u2 K2;refine sK λK2 u2=>A0.bb ?_
   (refine sG Kv [] 8 [] λK z=>?_;refine ev ?_;refine⟨by omega,_,I0 ht,rfl,?_⟩;(try simp -implicitDefEqProofs only[EV,Nat.reduceAdd,Nat.reduceEqDiff,reduceCtorEq,Gb,Nb,Du]);refine⟨by omega,_,I0 hu,rfl,?_⟩;(try simp -implicitDefEqProofs only[EV,Nat.reduceAdd,Nat.reduceEqDiff,reduceCtorEq,Du]);refine cc hs ?_;apply z;clear z K)
   refine A0.ff rfl (A0.kk (u2 _ _ ?_));clear u2 K2;refine lT Kv ?_;exact⟨(),trivial,sS,sB⟩
  intro _ _;refine sK λK2 u2=>?_
  (refine sQ Kv λK z=>?_;simp -implicitDefEqProofs only[EV,Nat.reduceEqDiff,reduceCtorEq,P9,B3,Er];apply z;clear z K)
  refine A0.ss rfl ?_;simp only[A4,Ab,Ae];refine u1 _ _ ?_;clear u2 K2 u1 J;refine sR Kv ?_;exact A0.ret ⟨_,_,by rw[results5];rfl,rfl,rfl⟩
end Go.Abs
namespace Go.Proofs.YtcmlfpcaeflleaaGreatDoor
open Go Go.ChangeShapes Go.WideShapes Go.ChangeAt Go.RowKit Go.Abs
theorem B3x{H:Type}{P:Program}{t0 t1:TypeId}{ts:List TypeId}{d0 d1:DataW H}{E:List (DataW H)}(h:(DataW.weightsEach P ([t0,t1]++ts) ([d0,d1]++E)).all (·<=reachBytes)=true) :
  (∀k,k∈d0.weights P t0->k<=reachBytes)/\∀k,k∈d1.weights P t1->k<=reachBytes:=by
 simp only[Qp,Vt,DataW.weightsEach,Ar9,Bc,Dr,Da]at h;exact⟨h.1,h.2.1⟩
end Go.Proofs.YtcmlfpcaeflleaaGreatDoor
namespace Go.Proofs.YtcmlfpcaeflleaaGreatDoor
open Go Go.ChangeShapes Go.WideShapes Go.ChangeAt Go.RowKit Go.Abs
theorem H0f(os:Os)(E:os.Started)(H:Type)(enc:TypeId × Value->H) :
  ReturnsInHanded {} Tryz.checked os 5 .any (λw args=>(Rows.instanceMethodsSpec.pre enc Tryz.prog Tryz.f5 Rows.instanceMethodsRow.domain false w args/\laidMetH Tryz.prog Rows.instanceMethodsRow.laid w)/\sizedMet enc Tryz.prog Tryz.f5 (OpenSpec.ofChange Rows.instanceMethodsSpec) false w args)
   (Rows.instanceMethodsSpec.post enc Tryz.prog Tryz.f5 false true false false):=by
 refine returnsInHanded_of_change_and (C:=Tryz.checked) (X:=λw _=>laidMetH Tryz.prog Rows.instanceMethodsRow.laid w) (λ_ _ _ hh h=>laidMetH.of_heap hh h) own E (by kernel_rfl) Tryz.func5
  (ChangeSpec.witness_at (enc:=enc) (C:=Tryz.checked) (os:=os) (X:=λw _=>laidMetH Tryz.prog Rows.instanceMethodsRow.laid w) false (B0f os) #[.agg #[.slice none 0 0,.int .i64 0,.string ⟨#[]⟩,.string ⟨#[]⟩,.slice none 0 0,.int .i64 0,.slice none 0 0,.slice none 0 0,.int .i64 0],.agg #[.string ⟨#[]⟩,.slice none 0 0,.int .i64 0]] 8 rfl (by kernel_rfl) (by kernel_rfl) (by kernel_rfl) (by kernel_rfl) (by kernel_rfl) (B5n os _)) ?_
 intro W base args ds gs M J hW a1 U hL _;have I:∀(j:Nat) t v,Tryz.f5.params[j]?=some t->args[j]?=some v->Value.okWide Tryz.prog W .any base t v:=J;have a0:=hW;obtain⟨p,q,O,hV,rfl,a3,a2⟩:=hW;have hA:DataW.TrodAll enc Tryz.prog W 0 (λ_=>true) true Tryz.f5.params.toList args.toList ds p:=O;rw[Tryz.params5]at hA I;obtain⟨v0,v1,d0,d1,p0,p1,rfl,rfl,rfl,Z,h1⟩:=trodAll_two hA;obtain⟨rfl,rfl⟩:=trodVars_none hV;obtain⟨w0,w1⟩:=B3x (t0:=30) (t1:=25) U;obtain⟨x0,r0⟩:=B6k (I 0 30 v0 rfl rfl) Z w0 A1c;obtain⟨x1,r1⟩:=F3p (I 1 25 v1 rfl rfl) h1 w1 A1c;obtain⟨_,_,V⟩:=B2t hL;refine(B4q (vs:=[v0,v1]) (G6q x0 x1) (.cons r0 (.cons r1 .nil)) V).mono λe W2 ⟨he,L⟩=>?_;subst he;exact⟨_,rfl,_,_,_,[],_,[],a0,trodAll_mk1 (shut_bool Tryz.underlying4 _),trodAll_mk2 (Below.trod laidOut (by kernel_rfl) (of_decide_eq_true (by kernel_rfl)) Z L (A4c Z)) (Below.trod laidOut (by kernel_rfl) (of_decide_eq_true (by kernel_rfl)) h1 L (A4c h1)),rfl,L.frame _,λh=>by cases h⟩
theorem k0:Tryz.pinned.checked.prog.funcNamed Rows.instanceMethodsRow.func=some 5:=by kernel_rfl
theorem G1a:(Rows.instanceMethodsRow.inPlace ==Tryz.prog.inPlace 5)=true:=by kernel_rfl
theorem F1u:(Rows.instanceMethodsRow.unfollowed ==Tryz.prog.unfollowed 5)=true:=by kernel_rfl
theorem H1a:(Rows.instanceMethodsRow.recurses ==Tryz.prog.recurses 5)=true:=by kernel_rfl
theorem G9q:(Rows.instanceMethodsRow.named ==Tryz.prog.varsNamed 5)=true:=by kernel_rfl
theorem k1:joinedFacts Tryz.prog 5 Tryz.f5 Rows.instanceMethodsSpec Rows.instanceMethodsRow=true:=by unfold joinedFacts;rw[G1a,F1u,H1a,G9q,laidOut,B4m,B5e,B4f,B3b,B4o];kernel_rfl
theorem F1o:Rows.instanceMethodsRow.wfByText (OpenSpec.ofChange Rows.instanceMethodsSpec)=true:=by kernel_rfl
theorem G4t:true=Tryz.prog.looks []:=by kernel_rfl
theorem E9j:false=Rows.instanceMethodsRow.goesBy Tryz.prog:=B6n rfl
theorem k2:Tryz.f5.isInstance Tryz.pinned.checked.prog Rows.instanceMethodsRow.origin Rows.instanceMethodsRow.targs:=of_decide_eq_true (by kernel_rfl)
theorem k3:Tryz.f5.isWrapper Tryz.pinned.checked.prog Rows.instanceMethodsRow.wrapper Rows.instanceMethodsRow.mainSum:=by unfold Func.isWrapper;first| (rw[A9 (by decide +kernel)];kernel_rfl)| (rw[A6 (by decide +kernel)];exact⟨rfl,rfl⟩)
theorem k4:Rows.InstanceMethodsSaid :=
 OpenClaim.holds_of_wide 5 Tryz.f5 rfl rfl rfl rfl rfl rfl rfl ⟨rfl,rfl,rfl,rfl,rfl⟩ rfl rfl rfl rfl rfl k0 Tryz.func5 k1
  k2 k3
  (λos E H enc _=>H0f os E H enc)
theorem instanceMethods_holds:Rows.InstanceMethodsCardSaid :=
 Claim7.holds_tied_plain_at .later [] [.data,.data,.data] true (true, "c42edb424f26ca866ca1ec54dbf62a3300d32448bd7f28dd09af8a3762dfa1c8") true
  k4 (λ_ h=>by cases h) F1o (λ_ h=>by cases h) instanceMethods_row_tie rfl ⟨rfl,rfl⟩ (by kernel_rfl) rfl
  (λf fn J E=>by
   obtain rfl:f=5:=Pb ((show Tryz.prog.funcNamed "castings/castingslaw21.InstanceMethods" =some 5 by kernel_rfl).symm.trans J) |>.symm
   obtain rfl:fn=Tryz.f5:=(Pb (Tryz.func5.symm.trans E)).symm;exact⟨G4t,λj t ht=>by
    rw[Tryz.params5]at ht;have I:t∈[30,25]:=Br (i:=j) (by simpa using ht);simp only[Aw,Ej,Eh]at I;rcases I with rfl|rfl
    .exact(show Tryz.prog.wantsStandIn 30=false by kernel_rfl)
    .exact(show Tryz.prog.wantsStandIn 25=false by kernel_rfl)⟩)
  E9j
end Go.Proofs.YtcmlfpcaeflleaaGreatDoor
