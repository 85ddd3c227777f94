/- instance.Methods -/
import Derived.Test.YtaneedhchnaniaaGreatDoorKW22
import Derived.Test.YtaneedhchnaniaaGreatDoorKW18
namespace Go.Abs
set_option maxHeartbeats 4000000
set_option linter.all false
open Go Go.Proofs Tryz
set_option maxRecDepth 100000
def Fp (p:Prog)(cs:List Au)(x:Ty):List Au:=(cs.filter fun c=>Dj p [] x c.on).map fun c=>⟨x,c.name,c.targs⟩
theorem A5w (p:Prog)(cs:List Au)(x:Ty):(Fp p cs x).length≤cs.length:=by unfold Fp;rw [B6];exact Ak8 _ _
theorem E8m {p:Prog} {cs:List Au} {x:Ty} {j:Nat} {c:Au} (h:cs[j]? = some c):Fp p (cs.take (j+1)) x=Fp p (cs.take j) x++(if Dj p [] x c.on=true then [⟨x,c.name,c.targs⟩] else []):=by
 unfold Fp;rw [At3,h];simp only [Option.toList_some,Ap4,Fz]
 congr 1
 by_cases E:Dj p [] x c.on=true <;> simp [E]
theorem D5h {p:Prog} {cs:List Au} {x:Ty} (I:x.Sm)(E:∀c,c∈cs→c.Sm):∀c,c∈Fp p cs x→c.Sm:=fun c h=>by obtain⟨d,hd,rfl⟩:=Ax.1 h;have:=E d (L8.1 hd).1;exact⟨I,this.name,this.targs⟩
abbrev U7:List Nat:=[0,1,2,3,4,5,6,7,8,10,14,15,16,17,24]
theorem F2a (p:Prog)(h:p.Sm)(ts:List Ty)(cs:List Au)(a3:cs.length≤sm)(J:∀c,c∈cs→c.Sm)(x:Ty)(hx:x.Sm) :
  R9 Tryz.prog 21 [Cv p,Vw ts cs,Be x] fun r=>∃I:List Au,I.Perm (Fp p cs x)∧I.Pairwise (fun a b=>Bj a b≤0)∧r=.d (.slice (Dn (H6 I))):=by
 have hn:=A9d p h;have a5:=A3v x hx
 (refine R9.A7y func21 rfl (by decide) (by rw [ntmps21];simp) ?_;rw [ntmps21])
 refine sR U7 ?_;refine sC hn U7 ?_;refine sR U7 ?_;refine A0.pp 8 5 8 rfl ?_;refine sK fun K1 u1=>?_
 (refine sQ U7 fun K z=>?_;simp -implicitDefEqProofs only [EV,Aq7,Aq8,Nat.reduceAdd,Nat.reduceEqDiff,Nat.reduceBEq,Nat.reduceLeDiff,Nat.reduceSub,Nat.reduceMul,Int.reduceEq,Int.reduceLT,Int.reduceLE,Int.reduceSub,Int.reduceAdd,Int.reduceToNat,reduceCtorEq,Int.reduceNeg,Jw,TF4,M3,Mr,I9,A2a,B2v,B7n,Vs,Jx];apply z;clear z K)
 refine A0.bb (A0.ii cs (X:=Unit) (fun j _=>[(5,.box 5 0),(7,.Ag (Fu p) 0),(8,.acc 8),(14,.d (.slice (Dn cs))),(15,A9 cs.length),(16,A9 j)])
  (fun j _=>[(5,.cells (Rw x)),(8,.rows 5 (Dn (Fp p (cs.take j) x)))])
  (fun _ _=>True) () trivial sS (by simp [ble,A7,Fp,Dn]) ?_ ?_)
 rotate_left
 ·intro j _ c hd U dp tk a4 _;have W:=J c U;have E:=F1y p h [] (by simp) (by simp) x c.on hx W.on;simp only [show Az ([]:List Ak)=[] from rfl] at E;have O:=C4s id [] [] c.targs W.targs.1 fun t ht=>by
   have:=B1m [] [] (by simp) t (W.targs.2 t ht);rw [A6m] at this;exact this
  rw [List.map_id] at O;have Z:=E8m (p:=p) (x:=x) hd;have e3:=A5w p (cs.take j) x;have e4:(cs.take j).length≤sm:=by rw [Cw];omega
  have e5:(Dn (Fp p (cs.take j) x)).length=(Fp p (cs.take j) x).length:=Jx _;refine Ah a4 U7 ?_;refine A0.E5 rfl ?_;refine sK fun K2 u2=>?_;refine A0.bb ?_
  (refine sQ U7 fun K z=>?_;simp -implicitDefEqProofs only [EV,Aq7,Aq8,Nat.reduceAdd,Nat.reduceEqDiff,Nat.reduceBEq,Nat.reduceLeDiff,Nat.reduceSub,Nat.reduceMul,Int.reduceEq,Int.reduceLT,Int.reduceLE,Int.reduceSub,Int.reduceAdd,Int.reduceToNat,reduceCtorEq,Int.reduceNeg,Jw,TF4,M3,Mr,I9,A2a,B2v,B7n,Vs,H5];refine⟨by omega,_,Qd hd,rfl,?_⟩;(try simp -implicitDefEqProofs only [EV,Aq7,Aq8,Nat.reduceAdd,Nat.reduceEqDiff,Nat.reduceBEq,Nat.reduceLeDiff,Nat.reduceSub,Nat.reduceMul,Int.reduceEq,Int.reduceLT,Int.reduceLE,Int.reduceSub,Int.reduceAdd,Int.reduceToNat,reduceCtorEq,Int.reduceNeg,Jw,TF4,M3,Mr,I9,A2a,B2v,B7n,Vs,H5]);apply z;clear z K)
  cases hb:Dj p [] x c.on with
  |false =>
   rw [hb] at E;rw [hb,A6 (by simp),Ge] at Z;refine sC E U7 ?_;refine A0.ff rfl (A0.kk (u2 _ _ ?_));clear u2 K2
   (refine lV U7 fun K z=>?_;refine cl ?_;apply z;clear z K;try simp only [A4,Aa,Af])
   exact⟨(),trivial,sS,by simp [ble,A7,Z]⟩
  |true =>
   rw [hb] at E;rw [hb,A8 rfl] at Z;refine sC E U7 ?_;refine A0.tt rfl ?_;generalize hM:Dn (Fp p (cs.take j) x)=MR at *;have e6:Dn (Fp p (cs.take (j+1)) x)=MR++[H5 ⟨x,c.name,c.targs⟩]:=by rw [Z,←hM];simp [Dn]
   (refine lG U7 [] 10 [] fun K z=>?_;refine ev ?_;refine cc a5 ?_;refine cc O ?_;refine⟨by simp,by (try simp only [e5]);unfold lim sm at *;omega,?_⟩;(try refine ev ?_);apply z;clear z K;try simp only [A4,Aa,Af])
   refine u2 _ _ ?_;clear u2 K2
   (refine lV U7 fun K z=>?_;refine cl ?_;apply z;clear z K;try simp only [A4,Aa,Af])
   exact⟨(),trivial,sS,by simp [ble,A7,e6,H5]⟩
 intro _ _;rw [Cs];refine Ah B4 U7 ?_;refine A0.stop rfl ?_;simp only [A4,Aa,Af];refine u1 _ _ ?_;clear u1 K1;have R:(Fp p cs x).length≤sm:=Dk (A5w p cs x) a3;have V:=D5h (p:=p) hx J;generalize Fp p cs x=ml at *;refine A0.C3c [8] [] 1 _ rfl rfl (by decide +kernel) fun K L=>?_;simp only [Wk,Ar9,Am7,Y7];refine ev ?_;refine⟨_,G0c 8 ml rfl rfl rfl rfl R V,?_⟩;rintro r a0 ⟨rfl,I,hp,hs,rfl⟩;simp only [Au8,As9,At0];refine ev ?_;refine L _ _ ?_;clear L K;have a1:I.length≤sm:=by rw [hp.length_eq];exact R
 have a2:∀c,c∈I→c.Sm:=fun c W=>V c (hp.mem_iff.1 W);refine A0.C3c [6] [] 1 _ rfl rfl (by decide +kernel) fun K L=>?_;simp only [Wk,Ar9,Am7,Y7];refine ev ?_;refine⟨_,G4b 8 I rfl rfl rfl a1 a2,?_⟩;rintro r a0 ⟨rfl,rfl⟩;simp only [Au8,As9,At0];refine ev ?_;refine L _ _ ?_;clear L K;exact A0.ret ⟨_,_,by rw [results21];rfl,rfl,I,hp,hs,rfl⟩
def Ze (p:Prog)(cs:List Au)(x:Ty):Ap:=(Fp p cs x).foldl Gz ⟨[],[],false⟩
theorem D4i:∀(l:List Au) {s:Ap},s.Sm→(∀c,c∈l→c.Sm)→(l.foldl Gz s).Sm
 |[],_,hs,_=>hs
 |c::l,_,hs,h=>D4i l (D0r hs (h c (by simp))) fun d hd=>h d (by simp [hd])
open Go
theorem B4i {a b c:Au} (h:Bj a b < 0)(k:Bj b c≤0):Bj a c < 0:=(A5v a b c).1 h k
theorem E7r {a b c:Au} (h:Bj a b≤0)(k:Bj b c < 0):Bj a c < 0:=(A5v a b c).2.1 h k
theorem C5u {a b c:Au} (h:Bj a b=0)(k:Bj b c=0):Bj a c=0:=(A5v a b c).2.2 h k
theorem D4v {a b:Au} (h:Bj a b=0):Bj b a=0:=by rw [Ut,h];rfl
def Pe (l:List Au):Prop:=l.Pairwise fun a b=>Bj a b < 0
def A4z (l m:List Au):Prop:=∀c,c∈l→∃d,d∈m∧Bj c d=0
theorem B4a {l:List Au} {i:Nat} (h:i < l.length):Cm l i=l[i]:=by simp [Cm,Ba h]
theorem C4a {n i:Nat} (h:i < n):(Array.range n)[i]! = i:=by rw [Jp _ _ (by simpa using h)];simp
theorem E1d {l:List Au} (hs:l.Pairwise fun a b=>Bj a b≤0):Pe (H6 l)∧A4z (H6 l) l∧A4z l (H6 l)∧∀c,c∈H6 l→c∈l:=by
 have O:∀i j,i≤j→j < l.length→Bj (Cm l i) (Cm l j)≤0:=fun i j h V=>by
  rcases Nat.lt_or_eq_of_le h with h| rfl
  ·rw [B4a V,B4a (by omega)];exact Ap5.1 hs i j (by omega) V h
  ·rw [A8k];exact Int.le_refl _
 have key:∀m,m≤l.length→∀r,(Jq (fun x y=>decide (Bj (Cm l x) (Cm l y)=0)) (Array.range l.length) m).map (Cm l)=r →
   Pe r∧(∀c,c∈r→∃i,i < m∧c=Cm l i)∧∀i,i < m→∃c,c∈r∧Bj (Cm l i) c=0:=by
  intro m
  induction m with
  |zero =>intro _ r hr;subst hr;exact⟨by simp [Jq,Pe],by simp [Jq],by omega⟩
  |succ m ih =>
   intro hm r hr;obtain⟨U,L,R⟩:=ih (by omega) _ rfl;rw [A3m,Fz] at hr;generalize (Jq (fun x y=>decide (Bj (Cm l x) (Cm l y)=0)) (Array.range l.length) m).map (Cm l)=r0 at *;have W:Kt (fun x y=>decide (Bj (Cm l x) (Cm l y)=0)) (Array.range l.length) m=true↔m=0∨Bj (Cm l m) (Cm l (m - 1))≠0:=by unfold Kt;rw [C4a (by omega),C4a (by omega)];simp
   by_cases E:Kt (fun x y=>decide (Bj (Cm l x) (Cm l y)=0)) (Array.range l.length) m=true
   ·rw [A8 E,Cz,Hr,C4a (by omega)] at hr;subst hr;refine⟨?_,fun c hc=>?_,fun i I=>?_⟩
    ·unfold Pe;rw [Ap6];refine⟨U,by simp,fun a Z b hb=>?_⟩;rw [Qt.1 hb];obtain⟨i,I,rfl⟩:=L a Z;rcases W.1 E with h0| h0
     ·omega
     ·have e1:=O i (m - 1) (by omega) (by omega);have e2:=O (m - 1) m (by omega) (by omega);have e3:=Ut (Cm l m) (Cm l (m - 1));exact E7r e1 (by omega)
    ·rcases Bw.1 hc with hc| hc
     ·obtain⟨i,I,e⟩:=L c hc;exact⟨i,by omega,e⟩
     ·exact⟨m,by omega,Qt.1 hc⟩
    ·by_cases e:i=m
     ·subst e;exact⟨_,List.mem_append_right _ (Qt.2 rfl),A8k _⟩
     ·obtain⟨c,hc,h⟩:=R i (by omega);exact⟨c,Au9 _ hc,h⟩
   ·rw [A6 E,Hr,Ge] at hr;subst hr;have h0:¬(m=0∨Bj (Cm l m) (Cm l (m - 1))≠0):=fun h=>E (W.2 h);refine⟨U,fun c hc=>?_,fun i I=>?_⟩
    ·obtain⟨i,I,e⟩:=L c hc;exact⟨i,by omega,e⟩
    ·by_cases e:i=m
     ·subst e;obtain⟨c,hc,h⟩:=R (i - 1) (by omega);exact⟨c,hc,C5u (by by_cases e:Bj (Cm l i) (Cm l (i - 1))=0;exact e;exact absurd (.inr e) h0) h⟩
     ·exact R i (by omega)
 obtain⟨U,L,R⟩:=key l.length (Cq _) _ rfl;have J:∀c,c∈H6 l→c∈l:=fun c hc=>by obtain⟨i,I,rfl⟩:=L c hc;rw [B4a I];exact F7 I
 refine⟨U,fun c hc=>⟨c,J c hc,A8k c⟩,fun c hc=>?_,J⟩;obtain⟨i,I,rfl⟩:=List.getElem_of_mem hc;obtain⟨d,hd,h⟩:=R i I;rw [B4a I] at h;exact⟨d,hd,h⟩
theorem E0p:∀{l m:List Au},Pe l→Pe m→A4z l m→A4z m l→l.length=m.length∧∀(i:Nat) c d,l[i]? = some c→m[i]? = some d→Bj c d=0
 |[],[],_,_,_,_=>⟨rfl,by simp⟩
 |[],d::m,_,_,_,h=>by obtain⟨c,hc,_⟩:=h d (by simp);simp at hc
 |c::l,[],_,_,h,_=>by obtain⟨d,hd,_⟩:=h c (by simp);simp at hd
 |c::l,d::m,hl,hm,Z,h2=>by
  have E:=Am3.1 hl;have J:=Am3.1 hm;have I:Bj c d=0:=by
   obtain⟨d',hd',V⟩:=Z c (by simp);obtain⟨U,hc',R⟩:=h2 d (by simp);rcases As.1 hd' with rfl| hd'
   ·exact V
   rcases As.1 hc' with rfl| hc'
   ·exact D4v R
   have k1:=J.1 d' hd';have k2:=E.1 U hc';have a2:=Ut d U;have s1:=B4i k2 (by omega:Bj U d≤0);have s2:=B4i s1 (by omega:Bj d d'≤0);omega
  have n1:A4z l m:=fun x L=>by
   obtain⟨y,hy,e⟩:=Z x (by simp [L]);rcases As.1 hy with rfl| hy
   ·have:=E.1 x L;have a1:=Ut x y;have:=C5u I (by omega:Bj y x=0);omega
   ·exact⟨y,hy,e⟩
  have n2:A4z m l:=fun x L=>by
   obtain⟨y,hy,e⟩:=h2 x (by simp [L]);rcases As.1 hy with rfl| hy
   ·have:=J.1 x L;have a1:=Ut x y;have:=C5u (D4v I) (by omega:Bj y x=0);omega
   ·exact⟨y,hy,e⟩
  obtain⟨V,R⟩:=E0p E.2 J.2 n1 n2;refine⟨by simp [V],fun i a b O W=>?_⟩;cases i with
  |zero=>simp at O W;subst O W;exact I
  |succ i=>exact R i a b (by simpa using O) (by simpa using W)
theorem E0r (x:Au):∀(l out:List Au),(∀t,t∈l→Bj x t < 0)→Fe Bj x l true out=some (out++l)
 |[],out,_=>by rw [Fe];simp
 |t::l,out,h=>by have I:=h t (by simp);rw [Fe,A6 (by omega),A6 (by simp),E0r x l _ fun u E=>h u (by simp [E])];simp
theorem D6d (x:Au):∀(l out:List Au),Pe l→(Fe Bj x l false out=none∧∃t,t∈l∧Bj x t=0)∨∃R,Fe Bj x l false out=some (out++R)∧Pe R∧∀t,t∈R↔t=x∨t∈l
 |[],out,_=>.inr ⟨[x],by rw [Fe];simp,by simp [Pe],by simp⟩
 |t::l,out,hs=>by
  have E:=Am3.1 hs;rw [Fe];by_cases J:Bj x t=0
  ·exact .inl ⟨by rw [A8 J],t,by simp,J⟩
  rw [A6 J];by_cases I:Bj x t < 0
  ·rw [A8 ⟨I,rfl⟩,E0r x l _ fun u hu=>B4i I (by have:=E.1 u hu;omega)];refine .inr ⟨x::t::l,by simp,?_,by simp⟩;exact Am3.2 ⟨fun u hu=>by
    rcases As.1 hu with rfl| hu
    ·exact I
    ·exact B4i I (by have:=E.1 u hu;omega),hs⟩
  ·rw [A6 fun h=>I h.1];rcases D6d x l (out++[t]) E.2 with ⟨e,u,hu,h⟩| ⟨R,e,O,L⟩
   ·exact .inl ⟨e,u,by simp [hu],h⟩
   ·refine .inr ⟨t::R,by rw [e];simp,Am3.2 ⟨fun u hu=>?_,O⟩,fun u=>?_⟩
    ·rcases (L u).1 hu with rfl| hu
     ·have:=Ut u t;omega
     ·exact E.1 u hu
    ·rw [As,L,As];constructor
     ·rintro (h| h| h) <;> simp [h]
     ·rintro (h| h| h) <;> simp [h]
theorem F3r (l:List Au)(x:Au)(hs:Pe l):Pe (I1 Bj l x)∧(∀t,t∈I1 Bj l x→t=x∨t∈l)∧(∀t,t∈l→t∈I1 Bj l x)∧∃t,t∈I1 Bj l x∧Bj x t=0:=by
 unfold I1;rcases D6d x l [] hs with ⟨e,u,I,h⟩| ⟨R,e,J,E⟩
 ·rw [e];exact⟨hs,fun t ht=>.inr ht,fun t ht=>ht,u,I,h⟩
 ·rw [e];simp only [Wa,Dc];exact⟨J,fun t ht=>(E t).1 ht,fun t ht=>(E t).2 (.inr ht),x,(E x).2 (.inl rfl),A8k x⟩
theorem B8g:∀(l:List Au)(s:Ap),Pe s.calls→s.calls.length+l.length≤101→Pe (l.foldl Gz s).calls∧(∀t,t∈(l.foldl Gz s).calls→t∈l∨t∈s.calls)∧(∀t,t∈s.calls→t∈(l.foldl Gz s).calls)∧A4z l (l.foldl Gz s).calls
 |[],s,hs,_=>⟨hs,fun t ht=>.inr ht,fun t ht=>ht,fun c hc=>by simp at hc⟩
 |x::l,s,hs,O=>by
  simp only [Bg] at O;obtain⟨V,L,R,t0,I,U⟩:=F3r s.calls x hs;have E:(Gz s x).calls=I1 Bj s.calls x:=by unfold Gz;rw [A6 (by omega)]
  have J:=(A3x (cmp:=Bj) (x:=x) s.calls).1;obtain⟨k1,k2,k3,k4⟩:=B8g l (Gz s x) (by rw [E];exact V) (by rw [E];omega);rw [E] at k2 k3;rw [Li];refine⟨k1,fun t ht=>?_,fun t ht=>k3 t (R t ht),fun c hc=>?_⟩
  ·rcases k2 t ht with h| h
   ·exact .inl (by simp [h])
   ·rcases L t h with rfl| h
    ·exact .inl (by simp)
    ·exact .inr h
  ·rcases As.1 hc with rfl| hc
   ·exact⟨t0,k3 t0 I,U⟩
   ·exact k4 c hc
theorem E6p {p:Prog} {cs:List Au} {x:Ty} (hn:cs.length≤100) {I:List Au} (J:I.Perm (Fp p cs x))(hs:I.Pairwise fun a b=>Bj a b≤0) :
  (H6 I).length=(Ze p cs x).calls.length∧(∀(i:Nat) c d,(H6 I)[i]? = some c→(Ze p cs x).calls[i]? = some d→Bj c d=0)∧(∀c,c∈H6 I→c∈Fp p cs x)∧∀c,c∈(Ze p cs x).calls→c∈Fp p cs x:=by
 obtain⟨Z,a2,a3,O⟩:=E1d hs;have hl:=A5w p cs x;obtain⟨R,b2,b3,V⟩:=B8g (Fp p cs x) ⟨[],[],false⟩ (by simp [Pe]) (by simp only [Ch];omega);have L:∀c,c∈(Ze p cs x).calls→c∈Fp p cs x:=fun c E=>(b2 c E).elim id fun h=>by simp at h
 obtain⟨U,W⟩:=E0p Z R (fun c E=>V c (J.mem_iff.1 (O c E))) (fun c E=>a3 c (J.mem_iff.2 (L c E)));exact⟨U,W,fun c E=>J.mem_iff.1 (O c E),L⟩
theorem C2w (t:Ty):t.er.mg=t.mg:=by
 induction t using Ty.induct with
 |h t I =>
 rw [Ty.A5c t.er,Ty.A5c t,B4h,B4r];have E:(t.args.map Ty.er=[])↔t.args=[]:=by simp
 have J:J5 (t.args.map Ty.er)=J5 t.args:=by
  unfold J5;have:(t.args.map Ty.er).map Ty.mg=t.args.map Ty.mg:=by rw [Fx];exact Hv fun u L=>I u L
  simp only [this,Au2,E]
 rw [J];simp only [E]
theorem C0s {t u:Ty} (h:t.er=u.er):t.mg=u.mg:=by rw [←C2w t,←C2w u,h]
theorem C5p {a b:Au} (h:Bj a b=0):a.on.er=b.on.er∧a.name=b.name∧a.targs.map Ty.er=b.targs.map Ty.er:=by
 rw [A2z] at h;by_cases E:Dz a.on b.on=0
 ·by_cases I:Bp a.name b.name=0
  ·rw [A6 (by simp [E]),A6 (by simp [I])] at h;have:=(B2f _ _).1 h;rw [P7,P7] at this;refine⟨(B2f _ _).1 E,Ui.1 I,?_⟩;injection this
  ·rw [A6 (by simp [E]),A8 I] at h;exact absurd h I
 ·rw [A8 E] at h;exact absurd h E
theorem D2s {l m:List Ty} (h:l.map Ty.er=m.map Ty.er):J5 l=J5 m:=by
 have I:l.map Ty.mg=m.map Ty.mg:=by
  have e:∀k:List Ty,k.map Ty.mg=(k.map Ty.er).map Ty.mg:=fun k=>by rw [Fx];exact Hv fun u _=>(C2w u).symm
  rw [e l,e m,h]
 have E:l=[]↔m=[]:=by have:=K9 List.length h;simp only [B6] at this;rw [←Ao0,←Ao0,this]
 unfold J5;simp only [I,E]
theorem F3m {t u:Ty} (h:t.er=u.er):R7 t=R7 u:=by unfold R7;rw [C0s h]
theorem C6b {p:Prog} {c d:Au} (O:c.on=d.on)(I:c.name=d.name)(E:c.targs.map Ty.er=d.targs.map Ty.er):Fk p c=Fk p d:=by
 have J:c.targs.length=d.targs.length:=by have:=K9 List.length E;simpa using this
 have hs:∀(v:List A3) (t:Ty),R7 (t.subst v c.targs)=R7 (t.subst v d.targs):=fun v t=>F3m (by rw [Ku,Ku,E]);have L:∀s,Md c s=Md d s:=fun s=>by
  unfold Md;rw [I,G3,G3,D2s E,hs]
  congr 1
  unfold Hg;refine Lu fun i=>?_;simp only [Um,D3,Option.map_map];cases s.params[i]? with
  |none=>rfl
  |some q=>simp only [E8,Function.comp,Param.subst,hs]
 unfold Fk B0y;rw [O,I,J];simp only [L]
end Go.Abs
