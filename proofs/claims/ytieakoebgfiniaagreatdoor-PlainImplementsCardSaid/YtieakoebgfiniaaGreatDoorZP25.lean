/- slices.CompactFunc on calls, walked with the kit -/
import Derived.Test.YtieakoebgfiniaaGreatDoorZW21
import Derived.Shelf.SlSortCmp.KitK
import Derived.Shelf.RegionOpenPlain
import Derived.Test.YtieakoebgfiniaaGreatDoorZW18
set_option linter.all false
set_option maxHeartbeats 4000000
set_option maxRecDepth 100000
namespace Go.Abs
open Go Go.Proofs Go.Sort Go.RowKit Go.Lib
section
variable {α:Type} [Inhabited α]
def Ze(e:α->α->Bool)(d:Array α)(j:Nat):Bool:=decide (j=0) || !e d[j]! d[j - 1]!
def W0(e:α->α->Bool)(d:Array α)(m:Nat):List α:=((List.range m).filter (Ze e d)).map (d[·]!)
variable {e:α->α->Bool} {d dk:Array α} {m k:Nat}
def A9o(e:α->α->Bool)(d:Array α)(m:Nat):W0 e d (m+1)=W0 e d m++(if Ze e d m=true then[d[m]!]else[]):=by
 unfold W0;rw[List.range_succ,Ap4,G0]
 congr 1
 by_cases h:Ze e d m=true <;> simp[h]
def C2d(h:∀j,j<m->Ze e d j=true):W0 e d m=(List.range m).map (d[·]!):=by unfold W0;rw[List.filter_eq_self.2 λj E=>h j (Ar8.1 E)]
structure A3f(e:α->α->Bool)(d:Array α)(m k:Nat)(dk:Array α):Prop where
 size:dk.size=d.size
 len:(W0 e d m).length=k
 lt:k<m
 low:∀j,j<k->(W0 e d m)[j]?=some dk[j]!
 high:∀j,k<=j->dk[j]! =d[j]!
def E7q(dk:Array α)(k j:Nat)(x:α)(E:k<dk.size):(dk.setIfInBounds k x)[j]! =if j=k then x else dk[j]!:=by
 simp only[getElem!_def,Array.getElem?_setIfInBounds];by_cases h:j=k
 .subst h;simp[E]
 .simp[h,Xn h]
def A3f.start(E:∀j,j<k->Ze e d j=true)(hd:Ze e d k=false):A3f e d (k+1) k d where
 size:=rfl
 len:=by rw[A9o,hd,C2d E];simp
 lt:=Nat.lt_succ_self _
 low:=λj I=>by rw[A9o,hd,C2d E];simp[I]
 high:=λ_ _=>rfl
def A3f.W3(h:A3f e d m k dk)(V:m<d.size)(E:Ze e d m=true):A3f e d (m+1) (k+1) (dk.setIfInBounds k d[m]!) where
 size:=by simp[h.size]
 len:=by rw[A9o,E];simp[h.len]
 lt:=by have:=h.lt;omega
 low:=λj L=>by
  have J:=h.len;have O:=h.lt;have U:=h.size;rw[A9o,E,A8 rfl,E7q _ _ _ _ (by omega)];by_cases I:j=k
  .subst I;rw[Kd (by omega),J,Au7,A8 rfl];rfl
  .rw[L4 (by omega),h.low j (by omega),A6 I]
 high:=λj L=>by have O:=h.lt;have U:=h.size;rw[E7q _ _ _ _ (by omega),A6 (by omega),h.high j (by omega)]
def A3f.skip(h:A3f e d m k dk)(E:Ze e d m=false):A3f e d (m+1) k dk where
 size:=h.size
 len:=by rw[A9o,E];simp[h.len]
 lt:=by have:=h.lt;omega
 low:=λj I=>by rw[A9o,E];simpa using h.low j I
 high:=h.high
end
section
variable {enc:Nat->List Value} {z:Nat}
end
section
variable {P:Program}
def E6p(P:Program)(f:FuncId)(enc:Nat->List Value)(z:Nat)(e:Nat->Nat->Bool)(E off size:Nat)(w:World):Prop :=
 ∀(m:Nat) (os:Array Obj) (dk:Array Nat),dk.size=size->∀x y,Calls P f #[.agg (enc x).toArray,.agg (enc y).toArray] (sortWorldK enc z w E off m dk os) λev w'=>ev=.returned (.bool (e x y))/\∃q I,w'=grow ((sortWorldK enc z w E off m dk os).drewN q) I
def E6p.at{f:FuncId}{enc:Nat->List Value}{z:Nat}{e:Nat->Nat->Bool}{E off size:Nat}{w I:World}{dk:Array Nat}(h:E6p P f enc z e E off size w)(V:SWK enc z w E off dk I)(hs:dk.size=size)(x y n:Nat)(os:Array Obj) :
  Calls P f #[.agg (enc x).toArray,.agg (enc y).toArray] (grow (I.drewN n) os) λev w'=>ev=.returned (.bool (e x y))/\∃q J,w'=grow ((grow (I.drewN n) os).drewN q) J:=by
 obtain⟨U,L,O⟩:=V.grown n os;rw[O];exact h U L dk hs x y
def D7o(enc:Nat->List Value)(z:Nat)(e:Nat->Nat->Bool)(E off cap:Nat)(d:Array Nat)(w:World)(ev:Ending)(w':World):Prop :=
 ev=.returned (.slice (some ⟨E,off,none⟩) (W0 e d d.size).length cap)/\∃dk,dk.size=d.size/\(∀j,j<(W0 e d d.size).length->(W0 e d d.size)[j]?=some dk[j]!)/\SWK enc z w E off dk w'
def D7o.all{enc:Nat->List Value}{z:Nat}{e:Nat->Nat->Bool}{E off cap:Nat}{d:Array Nat}{w w':World}(h:∀j,j<d.size->Ze e d j=true)(O:SWK enc z w E off d w'):D7o enc z e E off cap d w (.returned (.slice (some ⟨E,off,none⟩) d.size cap)) w':=by
 have L:=C2d h;have J:(W0 e d d.size).length=d.size:=by rw[L];simp
 refine⟨by rw[J],d,rfl,λj I=>?_,O⟩;rw[J]at I;rw[L];simp[I]
end
def De.take{S:Nat->Prop}{w:World}{β:Names}{i:BI}{sz:Nat}{rs:List (List D)}(h:De S w β i (.rows sz rs))(n:Nat)(hn:n<=rs.length):De S w β { i with len:=n } (.rows sz (rs.take n)):=by
 obtain⟨W,q2,q3,q4,Z,L,E⟩:=h;refine⟨W,by simp only[D4];omega,by simp only;omega,by simp only[D4];omega,λrow hr=>Z row (Ji hr),λrow hr=>L row (Ji hr),?_⟩;cases I:i.base with
 |none=>rw[I]at E;exact E
 |some b =>rw[I]at E;obtain⟨ty,vs,J,U,V⟩:=E;exact⟨ty,vs,J,U,λr j row d v hr hd O=>V r j row d v (by rw[Ak4]at hr;split at hr;exact hr;cases hr) hd O⟩
end Go.Abs
/- instance.Methods -/
namespace Go.Abs
open Go Go.Proofs
def Kk(p:Prog)(cs:List B9)(x:Ty):List B9:=(cs.filter λc=>Cv p [] x c.on).map λc=>⟨x,c.name,c.targs⟩
def B8a(p:Prog)(cs:List B9)(x:Ty):(Kk p cs x).length<=cs.length:=by unfold Kk;rw[Bc];exact An9 _ _
def F6g{p:Prog}{cs:List B9}{x:Ty}(E:x.Sm)(I:∀c,c∈cs->c.Sm):∀c,c∈Kk p cs x->c.Sm:=λc h=>by obtain⟨d,hd,rfl⟩:=Au.1 h;have:=I d (Jz.1 hd).1;exact⟨E,this.name,this.targs⟩
end Go.Abs
/- castingsref21.Methods -/
namespace Go.Abs
open Go Go.Proofs
abbrev H3r:Aq:=.cells [.d .nil,.d .nil,.d (.bool false)]
def Wk(p:Prog)(cs:List B9)(x:Ty):An:=(Kk p cs x).foldl Gj ⟨[],[],false⟩
def Ua:Option An->An
 |none=>⟨[],[],false⟩
 |some o=>o
def bxZ:Option An->Aq
 |none=>H3r
 |some o=>.cells (J1 o)
def D0n:∀(l:List B9) {s:An},s.Sm->(∀c,c∈l->c.Sm)->(l.foldl Gj s).Sm
 |[],_,hs,_=>hs
 |c::l,_,hs,h=>D0n l (C2w hs (h c (by simp))) λd hd=>h d (by simp[hd])
abbrev Ru:List Nat:=[0,1,2,3,4,5,6,7,8,14,25]
def F8y(p:Prog)(h:p.Sm)(s:An)(hs:s.Sm)(x:Ty)(hx:x.Sm):Aa Tryz.prog 68 [Ct p,Jh s,B7 x] (.d (.slice (Mn (Wk p s.calls x).calls))):=by
 have a2:=hs.calls.1;unfold Wk;generalize hR:(Kk p s.calls x).foldl Gj ⟨[],[],false⟩=R;refine cB Tryz.func68 ?_;refine sR Ru ?_;refine sR Ru ?_;refine kR Ru λK1 u1=>?_;refine A0.bb (A0.ii s.calls (X:=Option An) (λj o=>[(3,.box 3 0),(4,.box 4 0),(5,.box 5 0),(7,.box 7 0),(8,A5 j)])
  (λj o=>[(3,.cells ((Aj p).map .d)),(4,.cells (J1 s)),(5,.cells (Pa x)),(7,bxZ o)])
  (λj o=>(Kk p (s.calls.drop j) x).foldl Gj (Ua o)=R/\(Ua o).Sm) none ⟨hR,⟨by simp[Ua],by simp[Ua]⟩,⟨by simp[Ua],by simp[Ua]⟩⟩ sS (by simp[ble,A7,Aj,bxZ]) ?_ ?_)
 rotate_left
 .intro j o c J W dp tk a0 I;obtain⟨I,ho⟩:=I;have hc:=hs.calls.2 c W;have L:=A5w p h [] (by simp) (by simp) x c.on hx hc.on;simp only[show Ag ([]:List Ah)=[] from rfl]at L;have V:B9.Sm ⟨x,c.name,c.targs⟩:=⟨hx,hc.name,hc.targs⟩;have E:=E5n (Ua o) ho ⟨x,c.name,c.targs⟩ V;have U:=C2w ho V;rw[dp]at I;unfold Kk at I;rw[Aq8]at I;refine sK λO u2=>?_
  (refine sQ Ru λK z=>?_;simp -implicitDefEqProofs only[EV,Nat.reduceEqDiff,reduceCtorEq,Jd,Pw,a0,L9];apply z;clear z K)
  refine gI u2 ?_;clear u2 O;refine sK λO u2=>A0.bb ?_;cases Z:Cv p [] x c.on with
  |false =>
   rw[Z]at L;rw[Z,A6 (by simp)]at I
   (refine sG Ru [] 8 [] λK z=>?_;refine ev ?_;refine⟨by omega,_,J4 J,rfl,?_⟩;(try simp -implicitDefEqProofs only[EV,Nat.reduceAdd,Nat.reduceEqDiff,Nat.reduceLeDiff,reduceCtorEq,H3]);refine cc L ?_;apply z;clear z K)
   refine A0.ff rfl (A0.kk (u2 _ _ ?_));clear u2 O;refine lT Ru ?_;exact⟨o,⟨I,ho⟩,sS,by simp[ble,A7,Aj]⟩
  |true =>
   rw[Z]at L;rw[Z,A8 rfl,Ck,Lo]at I;generalize a1:Gj (Ua o) ⟨x,c.name,c.targs⟩=o2 at*;clear a1
   (refine sG Ru [] 8 [] λK z=>?_;refine ev ?_;refine⟨by omega,_,J4 J,rfl,?_⟩;(try simp -implicitDefEqProofs only[EV,Nat.reduceAdd,Nat.reduceEqDiff,Nat.reduceLeDiff,reduceCtorEq,H3]);refine cc L ?_;apply z;clear z K)
   refine A0.tt rfl ?_;cases o with
   |none =>
    simp only[Ua,bxZ]at E |-;have E:Aa Tryz.prog 58 [.agg [.d (.slice []),.d (.slice []),.d (.bool false)],caV ⟨x,c.name,c.targs⟩] (Jh o2):=E
    (refine lG Ru [] 15 [] λK z=>?_;refine ev ?_;refine⟨by omega,_,J4 J,rfl,?_⟩;(try simp -implicitDefEqProofs only[EV,Nat.reduceEqDiff,reduceCtorEq,M1,Jd,Pw,Sf,H3]);refine⟨by omega,_,J4 J,rfl,?_⟩;(try simp -implicitDefEqProofs only[EV,Nat.reduceAdd,Nat.reduceEqDiff,Nat.reduceLeDiff,reduceCtorEq,Pw,Sf,H3]);refine cc E ?_;apply z;clear z K;try simp only[A4,Ac])
    refine u2 _ _ ?_;clear u2 O;refine lT Ru ?_;exact⟨some o2,⟨I,U⟩,sS,by simp[ble,A7,Aj,bxZ]⟩
   |some o =>
    simp only[Ua,bxZ]at E |-
    (refine lG Ru [] 15 [] λK z=>?_;refine ev ?_;refine⟨by omega,_,J4 J,rfl,?_⟩;(try simp -implicitDefEqProofs only[EV,Nat.reduceEqDiff,reduceCtorEq,M1,Jd,Pw,Sf,H3]);refine⟨by omega,_,J4 J,rfl,?_⟩;(try simp -implicitDefEqProofs only[EV,Nat.reduceAdd,Nat.reduceEqDiff,Nat.reduceLeDiff,reduceCtorEq,Pw,Sf,H3]);refine cc E ?_;apply z;clear z K;try simp only[A4,Ac])
    refine u2 _ _ ?_;clear u2 O;refine lT Ru ?_;exact⟨some o2,⟨I,U⟩,sS,by simp[ble,A7,Aj,bxZ]⟩
 intro o I;obtain⟨I,_⟩:=I;rw[Db]at I;simp only[Kk,Ar5,G3,Vs]at I;subst I;refine sK λO u2=>?_
 (refine sQ Ru λK z=>?_;simp -implicitDefEqProofs only[EV,Nat.reduceEqDiff,reduceCtorEq,Jd,Pw,B3,L9];apply z;clear z K)
 refine A0.ss rfl ?_;simp only[A4,Ac,Af];refine u1 _ _ ?_;clear u2 O u1 K1;cases o with
 |none =>simp only[Ua,bxZ];refine sR Ru ?_;exact aR
 |some o =>simp only[Ua,bxZ];refine sR Ru ?_;exact aR
end Go.Abs
/- the calls on a type, sorted and without doubles: the program's and the reference's are the same up to places -/
namespace Go.Abs
open Go
def E1d{a b c:B9}(h:Dn a b<0)(k:Dn b c<=0):Dn a c<0:=(C3d a b c).1 h k
def F2m{a b c:B9}(h:Dn a b=0)(k:Dn b c=0):Dn a c=0:=(C3d a b c).2.2 h k
def F5o{a b:B9}(h:Dn a b=0):Dn b a=0:=by rw[C0b,h];rfl
def Sr(l:List B9):Prop:=l.Pairwise λa b=>Dn a b<0
def H1p(l m:List B9):Prop:=∀c,c∈l->∃d,d∈m/\Dn c d=0
def E1f(x:B9):∀(l out:List B9),(∀t,t∈l->Dn x t<0)->Fu Dn x l true out=some (out++l)
 |[],out,_=>by rw[Fu];simp
 |t::l,out,h=>by have I:=h t (by simp);rw[Fu,A6 (by omega),A6 (by simp),E1f x l _ λu E=>h u (by grind)];simp
def E3a(x:B9):∀(l out:List B9),Sr l->(Fu Dn x l false out=none/\∃t,t∈l/\Dn x t=0)\/∃R,Fu Dn x l false out=some (out++R)/\Sr R/\∀t,t∈R↔t=x\/t∈l
 |[],out,_=>.inr ⟨[x],by rfl,by simp[Sr],by simp⟩
 |t::l,out,hs=>by
  have I:=Zo.1 hs;rw[Fu];by_cases L:Dn x t=0
  .grind
  rw[A6 L];by_cases E:Dn x t<0
  .rw[A8 ⟨E,rfl⟩,E1f x l _ λu hu=>E1d E (by grind)];refine .inr ⟨x::t::l,by simp,?_,by simp⟩;exact Zo.2 ⟨λu hu=>by
    rcases B1.1 hu with rfl|hu
    .exact E
    .exact E1d E (by grind),hs⟩
  .rw[A6 λh=>E h.1];rcases E3a x l (out++[t]) I.2 with⟨e,u,hu,h⟩|⟨R,e,J,O⟩
   .grind
   .refine .inr ⟨t::R,by grind,Zo.2 ⟨λu hu=>?_,J⟩,λu=>?_⟩
    .grind[C0b]
    grind
def F6x(l:List B9)(x:B9)(hs:Sr l):Sr (I6 Dn l x)/\(∀t,t∈I6 Dn l x->t=x\/t∈l)/\(∀t,t∈l->t∈I6 Dn l x)/\∃t,t∈I6 Dn l x/\Dn x t=0:=by
 unfold I6;rcases E3a x l [] hs with⟨e,u,J,h⟩|⟨R,e,I,E⟩
 .grind
 .rw[e];simp;exact⟨I,λt ht=>(E t).1 ht,λt ht=>(E t).2 (.inr ht),x,(E x).2 (.inl rfl),D9b x⟩
def B4j:∀(l:List B9)(s:An),Sr s.calls->s.calls.length+l.length<=101->Sr (l.foldl Gj s).calls/\(∀t,t∈(l.foldl Gj s).calls->t∈l\/t∈s.calls)/\(∀t,t∈s.calls->t∈(l.foldl Gj s).calls)/\H1p l (l.foldl Gj s).calls
 |[],s,hs,_=>⟨hs,λt ht=>.inr ht,λt ht=>ht,λc hc=>by grind⟩
 |x::l,s,hs,O=>by
  simp at O;obtain⟨U,V,J,t0,L,W⟩:=F6x s.calls x hs;have I:(Gj s x).calls=I6 Dn s.calls x:=by unfold Gj;rw[A6 (by omega)]
  have E:=(A4c (cmp:=Dn) (x:=x) s.calls).1;obtain⟨k1,k2,k3,k4⟩:=B4j l (Gj s x) (by grind) (by grind);rw[I]at k2 k3;rw[Lo];refine⟨k1,λt ht=>?_,λt ht=>k3 t (J t ht),λc hc=>?_⟩
  .grind
  .rcases B1.1 hc with rfl|hc
   .grind
   .exact k4 c hc
end Go.Abs
/- names of instances do not know places -/
namespace Go.Abs
open Go
theorem C0e(t:Ty):t.er.mg=t.mg:=by
 induction t using Ty.induct with
 |h t E =>
 rw[Ty.A1f t.er,Ty.A1f t,A9z,B7q];have I:(t.args.map Ty.er=[])↔t.args=[]:=by simp
 grind[Jb,List.map_congr_left]
def C0s{t u:Ty}(h:t.er=u.er):t.mg=u.mg:=by grind[C0e]
def D1s{a b:B9}(h:Dn a b=0):a.on.er=b.on.er/\a.name=b.name/\a.targs.map Ty.er=b.targs.map Ty.er:=by
 rw[B0p]at h;by_cases E:E6 a.on b.on=0
 .by_cases I:Bt a.name b.name=0
  .rw[A6 (by omega),A6 (by omega)]at h;have:=(Tn _ _).1 h;rw[Ht,Ht]at this;refine⟨(Tn _ _).1 E,Se.1 I,?_⟩;injection this
  omega
 omega
def G6g{l m:List Ty}(h:l.map Ty.er=m.map Ty.er):Jb l=Jb m:=by
 have I:l.map Ty.mg=m.map Ty.mg:=by
  have e:∀k:List Ty,k.map Ty.mg=(k.map Ty.er).map Ty.mg:=λk=>by grind[List.map_congr_left,C0e]
  rw[e l,e m,h]
 have E:l=[]↔m=[]:=by have:=Gi List.length h;simp at this;rw[<-Ap0,<-Ap0,this]
 grind[Jb]
def E5u{t u:Ty}(h:t.er=u.er):Pd t=Pd u:=by unfold Pd;rw[C0s h]
end Go.Abs
