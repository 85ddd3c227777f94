/- slices.CompactFunc on calls, walked with the kit -/
import Derived.Test.YtjneockcgjfhaaaGreatDoorKW21
import Derived.Shelf.SlSortCmp.KitK
import Derived.Shelf.RegionOpenPlain
import Derived.Test.YtjneockcgjfhaaaGreatDoorKW18
import Derived.Test.YtjneockcgjfhaaaGreatDoorKU06
set_option linter.all false
set_option maxHeartbeats 4000000
set_option maxRecDepth 100000
namespace Go.Abs
open Go Go.Proofs Go.Sort Go.RowKit Go.Lib
section
variable {α:Type} [Inhabited α]
def A0n(e:α->α->Bool)(d:Array α)(j:Nat):Bool:=decide (j=0) || !e d[j]! d[j - 1]!
def Wi(e:α->α->Bool)(d:Array α)(m:Nat):List α:=((List.range m).filter (A0n e d)).map (d[·]!)
variable {e:α->α->Bool} {d dk:Array α} {m k:Nat}
def A7b(e:α->α->Bool)(d:Array α)(m:Nat):Wi e d (m+1)=Wi e d m++(if A0n e d m=true then[d[m]!]else[]):=by
 unfold Wi;rw[List.range_succ,Aq0,Hc]
 congr 1
 by_cases h:A0n e d m=true <;> simp[h]
def C5t(h:∀j,j<m->A0n e d j=true):Wi e d m=(List.range m).map (d[·]!):=by unfold Wi;rw[List.filter_eq_self.2 λj E=>h j (As3.1 E)]
structure A1z(e:α->α->Bool)(d:Array α)(m k:Nat)(dk:Array α):Prop where
 size:dk.size=d.size
 len:(Wi e d m).length=k
 lt:k<m
 low:∀j,j<k->(Wi e d m)[j]?=some dk[j]!
 high:∀j,k<=j->dk[j]! =d[j]!
def E5b(dk:Array α)(k j:Nat)(x:α)(E:k<dk.size):(dk.setIfInBounds k x)[j]! =if j=k then x else dk[j]!:=by simp only[getElem!_def,Array.getElem?_setIfInBounds];by_cases h:j=k;subst h;simp[E];simp[h,Yo h]
def A1z.start(E:∀j,j<k->A0n e d j=true)(hd:A0n e d k=false):A1z e d (k+1) k d where
 size:=rfl
 len:=by rw[A7b,hd,C5t E];simp
 lt:=Nat.lt_succ_self _
 low:=λj I=>by rw[A7b,hd,C5t E];simp[I]
 high:=λ_ _=>rfl
def A1z.X3(h:A1z e d m k dk)(V:m<d.size)(E:A0n e d m=true):A1z e d (m+1) (k+1) (dk.setIfInBounds k d[m]!) where
 size:=by simp[h.size]
 len:=by rw[A7b,E];simp[h.len]
 lt:=by have:=h.lt;omega
 low:=λj O=>by
  have J:=h.len;have U:=h.lt;have L:=h.size;rw[A7b,E,A6 rfl,E5b _ _ _ _ (by omega)];by_cases I:j=k
  .subst I;rw[Ma (by omega),J,Aq1,A6 rfl];rfl
  .rw[N0 (by omega),h.low j (by omega),A3 I]
 high:=λj O=>by have U:=h.lt;have L:=h.size;rw[E5b _ _ _ _ (by omega),A3 (by omega),h.high j (by omega)]
def A1z.skip(h:A1z e d m k dk)(E:A0n e d m=false):A1z e d (m+1) k dk where
 size:=h.size
 len:=by rw[A7b,E];simp[h.len]
 lt:=by have:=h.lt;omega
 low:=λj I=>by rw[A7b,E];simpa using h.low j I
 high:=h.high
end
section
variable {enc:Nat->List Value} {z:Nat}
end
section
variable {P:Program}
def D7o(P:Program)(f:FuncId)(enc:Nat->List Value)(z:Nat)(e:Nat->Nat->Bool)(E off size:Nat)(w:World):Prop :=∀(m:Nat) (os:Array Obj) (dk:Array Nat),dk.size=size->∀x y,Calls P f #[.agg (enc x).toArray,.agg (enc y).toArray] (sortWorldK enc z w E off m dk os) λev w'=>ev=.returned (.bool (e x y))/\∃q I,w'=grow ((sortWorldK enc z w E off m dk os).drewN q) I
def D7o.at{f:FuncId}{enc:Nat->List Value}{z:Nat}{e:Nat->Nat->Bool}{E off size:Nat}{w J:World}{dk:Array Nat}(h:D7o P f enc z e E off size w)(U:SWK enc z w E off dk J)(hs:dk.size=size)(x y n:Nat)(os:Array Obj) :Calls P f #[.agg (enc x).toArray,.agg (enc y).toArray] (grow (J.drewN n) os) λev w'=>ev=.returned (.bool (e x y))/\∃q L,w'=grow ((grow (J.drewN n) os).drewN q) L:=by obtain⟨V,I,O⟩:=U.grown n os;rw[O];exact h V I dk hs x y
def D1u(enc:Nat->List Value)(z:Nat)(e:Nat->Nat->Bool)(E off cap:Nat)(d:Array Nat)(w:World)(ev:Ending)(w':World):Prop :=ev=.returned (.slice (some ⟨E,off,none⟩) (Wi e d d.size).length cap)/\∃dk,dk.size=d.size/\(∀j,j<(Wi e d d.size).length->(Wi e d d.size)[j]?=some dk[j]!)/\SWK enc z w E off dk w'
def D1u.all{enc:Nat->List Value}{z:Nat}{e:Nat->Nat->Bool}{E off cap:Nat}{d:Array Nat}{w w':World}(h:∀j,j<d.size->A0n e d j=true)(O:SWK enc z w E off d w'):D1u enc z e E off cap d w (.returned (.slice (some ⟨E,off,none⟩) d.size cap)) w':=by
 have L:=C5t h;have J:(Wi e d d.size).length=d.size:=by rw[L];simp
 refine⟨by rw[J],d,rfl,λj I=>?_,O⟩;rw[J]at I;rw[L];simp[I]
end
def Dj.take{S:Nat->Prop}{w:World}{β:Names}{i:BI}{sz:Nat}{rs:List (List D)}(h:Dj S w β i (.rows sz rs))(n:Nat)(hn:n<=rs.length):Dj S w β { i with len:=n } (.rows sz (rs.take n)):=by
 obtain⟨W,q2,q3,q4,U,O,E⟩:=h;refine⟨W,by simp only[D0];omega,by simp only;omega,by simp only[D0];omega,λrow hr=>U row (Mt hr),λrow hr=>O row (Mt hr),?_⟩;cases I:i.base with
 |none=>rw[I]at E;exact E
 |some b =>rw[I]at E;obtain⟨ty,vs,J,Z,V⟩:=E;exact⟨ty,vs,J,Z,λr j row d v hr hd L=>V r j row d v (by rw[Ak4]at hr;split at hr;exact hr;cases hr) hd L⟩
end Go.Abs
/- instance.Methods -/
namespace Go.Abs
open Go Go.Proofs
def L7(p:Prog)(cs:List B8)(x:Ty):List B8:=(cs.filter λc=>Cg p [] x c.on).map λc=>⟨x,c.name,c.targs⟩
def B7z(p:Prog)(cs:List B8)(x:Ty):(L7 p cs x).length<=cs.length:=by unfold L7;rw[Bc];exact Ao4 _ _
def F8c{p:Prog}{cs:List B8}{x:Ty}(E:x.Sm)(I:∀c,c∈cs->c.Sm):∀c,c∈L7 p cs x->c.Sm:=λc h=>by obtain⟨d,hd,rfl⟩:=Au.1 h;have:=I d (Kr.1 hd).1;exact⟨E,this.name,this.targs⟩
end Go.Abs
/- castingsref21.Methods -/
namespace Go.Abs
open Go Go.Proofs
abbrev G1a:Aq:=.cells [.d .nil,.d .nil,.d (.bool false)]
def Ww(p:Prog)(cs:List B8)(x:Ty):Am:=(L7 p cs x).foldl Gp ⟨[],[],false⟩
def V9:Option Am->Am
 |none=>⟨[],[],false⟩
 |some o=>o
def bxZ:Option Am->Aq
 |none=>G1a
 |some o=>.cells (Jg o)
def D7q:∀(l:List B8) {s:Am},s.Sm->(∀c,c∈l->c.Sm)->(l.foldl Gp s).Sm
 |[],_,hs,_=>hs
 |c::l,_,hs,h=>D7q l (C1v hs (h c (by simp))) λd hd=>h d (by simp[hd])
abbrev Sv:List Nat:=[0,1,2,3,4,5,6,7,8,14,25]
def F3u(p:Prog)(h:p.Sm)(s:Am)(hs:s.Sm)(x:Ty)(hx:x.Sm):Ab Tryz.prog 56 [Cq p,Ke s,Be x] (.d (.slice (N8 (Ww p s.calls x).calls))):=by
 have a2:=hs.calls.1;unfold Ww;generalize hR:(L7 p s.calls x).foldl Gp ⟨[],[],false⟩=R;refine cB Tryz.func56 ?_;refine sR Sv ?_;refine sR Sv ?_;refine kR Sv λK1 u1=>?_;refine A0.bb (A0.ii s.calls (X:=Option Am) (λj o=>[(3,.box 3 0),(4,.box 4 0),(5,.box 5 0),(7,.box 7 0),(8,A7 j)]) (λj o=>[(3,.cells ((Ai p).map .d)),(4,.cells (Jg s)),(5,.cells (Q9 x)),(7,bxZ o)]) (λj o=>(L7 p (s.calls.drop j) x).foldl Gp (V9 o)=R/\(V9 o).Sm) none ⟨hR,⟨by simp[V9],by simp[V9]⟩,⟨by simp[V9],by simp[V9]⟩⟩ sS (by simp[ble,A8,Ai,bxZ]) ?_ ?_)
 rotate_left
 .intro j o c J V dp tk a0 I;obtain⟨I,ho⟩:=I;have hc:=hs.calls.2 c V;have L:=A6r p h [] (by simp) (by simp) x c.on hx hc.on;simp only[show Ax ([]:List Ak)=[] from rfl]at L;have W:B8.Sm ⟨x,c.name,c.targs⟩:=⟨hx,hc.name,hc.targs⟩;have E:=D1b (V9 o) ho ⟨x,c.name,c.targs⟩ W;have U:=C1v ho W;rw[dp]at I;unfold L7 at I;rw[Ar2]at I;refine sK λO u2=>?_
  (refine sQ Sv λK z=>?_;simp -implicitDefEqProofs only[EV,Nat.reduceEqDiff,reduceCtorEq,Hw,Fx,a0,Gn];apply z;clear z K)
  refine gI u2 ?_;clear u2 O;refine sK λO u2=>A0.bb ?_;cases Z:Cg p [] x c.on with
  |false =>
   rw[Z]at L;rw[Z,A3 (by simp)]at I
   (refine sG Sv [] 8 [] λK z=>?_;refine ev ?_;refine⟨by omega,_,Jq J,rfl,?_⟩;(try simp -implicitDefEqProofs only[EV,Nat.reduceAdd,Nat.reduceEqDiff,Nat.reduceLeDiff,reduceCtorEq,G6]);refine cc L ?_;apply z;clear z K)
   refine A0.ff rfl (A0.kk (u2 _ _ ?_));clear u2 O;refine lT Sv ?_;exact⟨o,⟨I,ho⟩,sS,by simp[ble,A8,Ai]⟩
  |true =>
   rw[Z]at L;rw[Z,A6 rfl,Cp,Mr]at I;generalize a1:Gp (V9 o) ⟨x,c.name,c.targs⟩=o2 at*;clear a1
   (refine sG Sv [] 8 [] λK z=>?_;refine ev ?_;refine⟨by omega,_,Jq J,rfl,?_⟩;(try simp -implicitDefEqProofs only[EV,Nat.reduceAdd,Nat.reduceEqDiff,Nat.reduceLeDiff,reduceCtorEq,G6]);refine cc L ?_;apply z;clear z K)
   refine A0.tt rfl ?_;cases o with
   |none =>
    simp only[V9,bxZ]at E |-;have E:Ab Tryz.prog 41 [.agg [.d (.slice []),.d (.slice []),.d (.bool false)],caV ⟨x,c.name,c.targs⟩] (Ke o2):=E
    (refine lG Sv [] 15 [] λK z=>?_;refine ev ?_;refine⟨by omega,_,Jq J,rfl,?_⟩;(try simp -implicitDefEqProofs only[EV,Nat.reduceEqDiff,reduceCtorEq,Ji,Hw,Fx,Lq,G6]);refine⟨by omega,_,Jq J,rfl,?_⟩;(try simp -implicitDefEqProofs only[EV,Nat.reduceAdd,Nat.reduceEqDiff,Nat.reduceLeDiff,reduceCtorEq,Fx,Lq,G6]);refine cc E ?_;apply z;clear z K;try simp only[A5,A9])
    refine u2 _ _ ?_;clear u2 O;refine lT Sv ?_;exact⟨some o2,⟨I,U⟩,sS,by simp[ble,A8,Ai,bxZ]⟩
   |some o =>
    simp only[V9,bxZ]at E |-
    (refine lG Sv [] 15 [] λK z=>?_;refine ev ?_;refine⟨by omega,_,Jq J,rfl,?_⟩;(try simp -implicitDefEqProofs only[EV,Nat.reduceEqDiff,reduceCtorEq,Ji,Hw,Fx,Lq,G6]);refine⟨by omega,_,Jq J,rfl,?_⟩;(try simp -implicitDefEqProofs only[EV,Nat.reduceAdd,Nat.reduceEqDiff,Nat.reduceLeDiff,reduceCtorEq,Fx,Lq,G6]);refine cc E ?_;apply z;clear z K;try simp only[A5,A9])
    refine u2 _ _ ?_;clear u2 O;refine lT Sv ?_;exact⟨some o2,⟨I,U⟩,sS,by simp[ble,A8,Ai,bxZ]⟩
 intro o I;obtain⟨I,_⟩:=I;rw[D3]at I;simp only[L7,Ar7,It,We]at I;subst I;refine sK λO u2=>?_
 (refine sQ Sv λK z=>?_;simp -implicitDefEqProofs only[EV,Nat.reduceEqDiff,reduceCtorEq,Hw,Fx,B6,Gn];apply z;clear z K)
 refine A0.ss rfl ?_;simp only[A5,A9,Ac];refine u1 _ _ ?_;clear u2 O u1 K1;cases o with
 |none =>simp only[V9,bxZ];refine sR Sv ?_;exact aR
 |some o =>simp only[V9,bxZ];refine sR Sv ?_;exact aR
end Go.Abs
/- the calls on a type, sorted and without doubles: the program's and the reference's are the same up to places -/
namespace Go.Abs
open Go
def D8a{a b c:B8}(h:Dk a b<0)(k:Dk b c<=0):Dk a c<0:=(C7e a b c).1 h k
def G7x{a b c:B8}(h:Dk a b=0)(k:Dk b c=0):Dk a c=0:=(C7e a b c).2.2 h k
def F7a{a b:B8}(h:Dk a b=0):Dk b a=0:=by rw[B6r,h];rfl
def Td(l:List B8):Prop:=l.Pairwise λa b=>Dk a b<0
def G9s(l m:List B8):Prop:=∀c,c∈l->∃d,d∈m/\Dk c d=0
def D6k(x:B8):∀(l out:List B8),(∀t,t∈l->Dk x t<0)->Fy Dk x l true out=some (out++l)
 |[],out,_=>by rw[Fy];simp
 |t::l,out,h=>by have E:=h t (by simp);rw[Fy,A3 (by omega),A3 (by simp),D6k x l _ λu I=>h u (by grind)];simp
def D7g(x:B8):∀(l out:List B8),Td l->(Fy Dk x l false out=none/\∃t,t∈l/\Dk x t=0)\/∃R,Fy Dk x l false out=some (out++R)/\Td R/\∀t,t∈R↔t=x\/t∈l
 |[],out,_=>.inr ⟨[x],by rfl,by simp[Td],by simp⟩
 |t::l,out,hs=>by have I:=Aj7.1 hs;rw[Fy];by_cases J:Dk x t=0;grind;rw[A3 J];by_cases E:Dk x t<0;rw[A6 ⟨E,rfl⟩,D6k x l _ λu hu=>D8a E (by grind)];refine .inr ⟨x::t::l,by simp,?_,by simp⟩;exact Aj7.2 ⟨λu hu=>by rcases B5.1 hu with rfl|hu;exact E;exact D8a E (by grind),hs⟩;rw[A3 λh=>E h.1];rcases D7g x l (out++[t]) I.2 with⟨e,u,hu,h⟩|⟨R,e,L,O⟩;grind;refine .inr ⟨t::R,by grind,Aj7.2 ⟨λu hu=>?_,L⟩,λu=>?_⟩;grind[B6r];grind
def E8x(l:List B8)(x:B8)(hs:Td l):Td (Iu Dk l x)/\(∀t,t∈Iu Dk l x->t=x\/t∈l)/\(∀t,t∈l->t∈Iu Dk l x)/\∃t,t∈Iu Dk l x/\Dk x t=0:=by unfold Iu;rcases D7g x l [] hs with⟨e,u,J,h⟩|⟨R,e,I,E⟩;grind;rw[e];simp;exact⟨I,λt ht=>(E t).1 ht,λt ht=>(E t).2 (.inr ht),x,(E x).2 (.inl rfl),D4a x⟩
def B4x:∀(l:List B8)(s:Am),Td s.calls->s.calls.length+l.length<=101->Td (l.foldl Gp s).calls/\(∀t,t∈(l.foldl Gp s).calls->t∈l\/t∈s.calls)/\(∀t,t∈s.calls->t∈(l.foldl Gp s).calls)/\G9s l (l.foldl Gp s).calls
 |[],s,hs,_=>⟨hs,λt ht=>.inr ht,λt ht=>ht,λc hc=>by grind⟩
 |x::l,s,hs,O=>by
  simp at O;obtain⟨U,W,I,t0,J,V⟩:=E8x s.calls x hs;have L:(Gp s x).calls=Iu Dk s.calls x:=by unfold Gp;rw[A3 (by omega)]
  have E:=(A4a (cmp:=Dk) (x:=x) s.calls).1;obtain⟨k1,k2,k3,k4⟩:=B4x l (Gp s x) (by grind) (by grind);rw[L]at k2 k3;rw[Mr];refine⟨k1,λt ht=>?_,λt ht=>k3 t (I t ht),λc hc=>?_⟩;grind;rcases B5.1 hc with rfl|hc;grind;exact k4 c hc
end Go.Abs
/- names of instances do not know places -/
namespace Go.Abs
open Go
theorem C0e(t:Ty):t.er.mg=t.mg:=by
 induction t using Ty.induct with
 |h t I =>
 rw[Ty.Yv t.er,Ty.Yv t,A8q,B0g];have E:(t.args.map Ty.er=[])↔t.args=[]:=by simp
 grind[H7,List.map_congr_left]
def A7t{t u:Ty}(h:t.er=u.er):t.mg=u.mg:=by grind[C0e]
def C2e{a b:B8}(h:Dk a b=0):a.on.er=b.on.er/\a.name=b.name/\a.targs.map Ty.er=b.targs.map Ty.er:=by rw[A8j]at h;by_cases E:E6 a.on b.on=0;by_cases I:Bw a.name b.name=0;rw[A3 (by omega),A3 (by omega)]at h;have:=(Ud _ _).1 h;rw[Ia,Ia]at this;refine⟨(Ud _ _).1 E,Tx.1 I,?_⟩;injection this;omega;omega
def B6q{l m:List Ty}(h:l.map Ty.er=m.map Ty.er):H7 l=H7 m:=by
 have E:l.map Ty.mg=m.map Ty.mg:=by
  have e:∀k:List Ty,k.map Ty.mg=(k.map Ty.er).map Ty.mg:=λk=>by grind[List.map_congr_left,C0e]
  rw[e l,e m,h]
 have I:l=[]↔m=[]:=by have:=Gf List.length h;simp at this;rw[<-Ar8,<-Ar8,this]
 grind[H7]
def D0f{t u:Ty}(h:t.er=u.er):Pm t=Pm u:=by unfold Pm;rw[A7t h]
end Go.Abs
