/- slices.CompactFunc on calls, walked with the kit -/
import Derived.Test.YtcmlfpcaeflleaaGreatDoorGW21
import Derived.Shelf.SlSortCmp.KitK
import Derived.Shelf.RegionOpenPlain
import Derived.Test.YtcmlfpcaeflleaaGreatDoorGW17
set_option linter.all false
set_option maxHeartbeats 4000000
set_option maxRecDepth 100000
namespace Go.Abs
open Go Go.Proofs Go.Sort Go.RowKit Go.Lib Tryz
section
variable {α:Type} [Inhabited α]
def Lv(e:α->α->Bool)(d:Array α)(j:Nat):Bool:=decide (j=0) || !e d[j]! d[j - 1]!
def M7(e:α->α->Bool)(d:Array α)(m:Nat):List α:=((List.range m).filter (Lv e d)).map (d[·]!)
variable {e:α->α->Bool} {d dk:Array α} {m k:Nat}
def E0h(e:α->α->Bool)(d:Array α):∀j,j<1->Lv e d j=true:=by
 intro j E;have:j=0:=by omega
 subst this;simp[Lv]
def A6s(e:α->α->Bool)(d:Array α)(m:Nat):M7 e d (m+1)=M7 e d m++(if Lv e d m=true then[d[m]!]else[]):=by
 unfold M7;rw[List.range_succ,Ap5,Gg]
 congr 1
 by_cases h:Lv e d m=true <;> simp[h]
def C8q(h:∀j,j<m->Lv e d j=true):M7 e d m=(List.range m).map (d[·]!):=by unfold M7;rw[List.filter_eq_self.2 λj E=>h j (Aq9.1 E)]
structure Xa(e:α->α->Bool)(d:Array α)(m k:Nat)(dk:Array α):Prop where
 size:dk.size=d.size
 len:(M7 e d m).length=k
 lt:k<m
 low:∀j,j<k->(M7 e d m)[j]?=some dk[j]!
 high:∀j,k<=j->dk[j]! =d[j]!
def C8v(dk:Array α)(k j:Nat)(x:α)(E:k<dk.size):(dk.setIfInBounds k x)[j]! =if j=k then x else dk[j]!:=by
 simp only[getElem!_def,Array.getElem?_setIfInBounds];by_cases h:j=k
 .subst h;simp[E]
 .simp[h,Um h]
def Xa.start(E:∀j,j<k->Lv e d j=true)(I:Lv e d k=false):Xa e d (k+1) k d where
 size:=rfl
 len:=by rw[A6s,I,C8q E];simp
 lt:=Nat.lt_succ_self _
 low:=λj J=>by rw[A6s,I,C8q E];simp[J]
 high:=λ_ _=>rfl
def Xa.S9(h:Xa e d m k dk)(U:m<d.size)(E:Lv e d m=true):Xa e d (m+1) (k+1) (dk.setIfInBounds k d[m]!) where
 size:=by simp[h.size]
 len:=by rw[A6s,E];simp[h.len]
 lt:=by have:=h.lt;omega
 low:=λj J=>by
  have L:=h.len;have O:=h.lt;have M:=h.size;rw[A6s,E,A9 rfl,C8v _ _ _ _ (by omega)];by_cases I:j=k
  .subst I;rw[M5 (by omega),L,Nat.sub_self,A9 rfl];rfl
  .rw[Ls (by omega),h.low j (by omega),A6 I]
 high:=λj J=>by have O:=h.lt;have M:=h.size;rw[C8v _ _ _ _ (by omega),A6 (by omega),h.high j (by omega)]
def Xa.skip(h:Xa e d m k dk)(E:Lv e d m=false):Xa e d (m+1) k dk where
 size:=h.size
 len:=by rw[A6s,E];simp[h.len]
 lt:=by have:=h.lt;omega
 low:=λj I=>by rw[A6s,E];simpa using h.low j I
 high:=h.high
end
section
variable {enc:Nat->List Value} {z:Nat}
def over(dk:Array Nat)(i:Nat)(d2:Array Nat):Array Nat:=(Array.range dk.size).map λj=>if i<=j/\j<i+d2.size then d2[j - i]! else dk[j]!
def A9n(dk:Array Nat)(i:Nat)(d2:Array Nat):(over dk i d2).size=dk.size:=by simp[over]
def C7n(dk:Array Nat)(i:Nat)(d2:Array Nat)(j:Nat)(h:j<dk.size):(over dk i d2)[j]! =if i<=j/\j<i+d2.size then d2[j - i]! else dk[j]!:=by rw[Ik _ _ (by rw[A9n];exact h)];simp[over]
def F5o(dk:Array Nat)(i y:Nat)(h:i<dk.size):over dk i #[y]=dk.setIfInBounds i y:=by
 refine Array.ext (by rw[A9n];simp) λt E I=>?_;rw[<-Ik (over dk i #[y]) t E,<-Ik (dk.setIfInBounds i y) t I];have ht:t<dk.size:=by rwa [A9n]at E
 rw[C7n _ _ _ _ ht,C8v _ _ _ _ h];by_cases e:t=i
 .subst e;simp
 .rw[A6 (by simp;omega),A6 e]
def G0b(E:∀x,(enc x).length=z)(y:Nat):(flatK enc z #[y]).toList=enc y:=by
 refine M3 λt=>?_;rw[Vg];by_cases h:t<z
 .have J:t<(flatK enc z #[y]).size:=by simp;exact h
  have I:=get_flatK enc z #[y] t (by simp;exact h);rw[Ik (flatK enc z #[y]) t J,Nat.div_eq_of_lt h,Nat.mod_eq_of_lt h,show(#[y]:Array Nat)[0]! =y from rfl,Ik (enc y) t (by rw[E];exact h)]at I;rw[Nt J,I,B8 (by rw[E];exact h)]
 .rw[Array.getElem?_eq_none (by simp;omega),Z9 (by rw[E];omega)]
def E8x(W:∀x,(enc x).length=z)(dk:Array Nat)(i:Nat)(d2:Array Nat)(h:i+d2.size<=dk.size):setMany (flatK enc z dk) (i*z) (flatK enc z d2).toList=flatK enc z (over dk i d2):=by
 refine ext_get! (by simp[A9n]) λt ht=>?_;have E:t<dk.size*z:=by simpa using ht
 have k0:0<z:=by
            rcases Ap3 z with h|h;· subst h;simp at E
            .exact h
 have J:t / z<dk.size:=(Ar0 k0).2 E;rw[get_setMany _ _ _ t (by simpa using E),get_flatK _ _ _ t E,get_flatK _ _ _ t (by rw[A9n];exact E),C7n _ _ _ _ J];simp only[Us,size_flatK];have L:i*z<=t↔i<=t / z:=(As8 k0).symm;have U:t<i*z+d2.size*z↔t / z<i+d2.size:=by rw[<-Gy,Ar0 k0]
 by_cases I:i<=t / z/\t / z<i+d2.size
 .rw[A9 I,A9 ⟨L.2 I.1,U.2 I.2⟩];have V:=L.2 I.1;obtain⟨s,rfl⟩:∃s,t=i*z+s:=⟨t - i*z,by omega⟩;have es:(i*z+s) / z=i+s / z:=by rw[Uu,Nat.mul_add_div k0]
  have em:(i*z+s) % z=s % z:=by rw[Uu,Nat.mul_add_mod]
  rw[es]at I;have hs:s<d2.size*z:=(Ar0 k0).1 (by omega);have O:=get_flatK enc z d2 s hs;rw[Ik _ _ (by rw[size_flatK];exact hs)]at O;rw[show i*z+s - i*z=s by omega,es,em,show i+s / z - i=s / z by omega,<-O];rw[Ik _ _ (by simp;exact hs)];simp
 .rw[A6 I,A6 (λM=>I ⟨L.1 M.1,U.1 M.2⟩)]
def SWK.over{w W:World}{E off:Nat}{dk:Array Nat}(h:SWK enc z w E off dk W)(L:∀x,(enc x).length=z)(I:E<w.heap.size)(i:Nat)(d2:Array Nat)(J:i+d2.size<=dk.size) :
  SWK enc z w E off (Abs.over dk i d2) (W.setCells E (off+i*z) (flatK enc z d2).toList):=by
 obtain⟨n,os,rfl⟩:=h;refine⟨n,os,?_⟩;unfold sortWorldK;rw[setCells_grow os E _ _ _ (by rw[size_putRowK];exact I)]
 congr 1
 unfold putRowK;rw[setCells_putRow _ _ _ _ _ _ (by simp only[Us,size_flatK,<-Gy];exact I9 _ J),E8x L dk i d2 J]
def SWK.G5e{w W:World}{E off:Nat}{dk:Array Nat}(h:SWK enc z w E off dk W)(J:∀x,(enc x).length=z)(I:E<w.heap.size)(i y:Nat)(L:i<dk.size) :
  SWK enc z w E off (dk.setIfInBounds i y) (W.setCells E (off+i*z) (enc y)):=by
 have:=SWK.over h J I i #[y] (by simp;omega)
 rwa [F5o _ _ _ L,G0b J]at this
def F2v(E:∀x,(enc x).length=z)(y n:Nat):(Builtin.zeroCells (enc y).toArray n)=flatK enc z (Array.replicate n y):=by
 unfold Builtin.zeroCells flatK;simp only[List.size_toArray,E,Array.size_replicate];refine Array.map_congr_left λt ht=>?_;have ht:t<n*z:=by simpa using ht
 have k0:0<z:=by
            rcases Ap3 z with h|h;· subst h;simp at ht
            .exact h
 have:t / z<n:=(Ar0 k0).2 ht;rw[Ik (Array.replicate n y) _ (by simpa using this)];simp
def G4r(L:∀x,(enc x).length=z)(J:∀x,∀v∈enc x,v.oneCell'=true)(d2:Array Nat):∀v∈(flatK enc z d2).toList,v.oneCell'=true:=λv M=>by
 obtain⟨t,ht,rfl⟩:=Array.getElem_of_mem (Array.mem_toList_iff.1 M);have E:t<d2.size*z:=by simpa using ht
 have k0:0<z:=by
            rcases Ap3 z with h|h;· subst h;simp at E
            .exact h
 have I:=get_flatK enc z d2 t E;rw[Ik (flatK enc z d2) t ht,Ik (enc _) (t % z) (by rw[L];exact Zk _ k0)]at I;rw[I];exact J _ _ (Fa _)
def F7c{P:Program}{W:World}{ts L ty:TypeId}{E off n c:Nat}{dk:Array Nat}(V:P.underlying ts=some (TypeDesc.slice L))(I:Nat)(O:∀w,(zeroValue L).run P w=.ok (.agg (enc I).toArray) w)
  (M:∀x,(enc x).length=z)(U:∀x,∀v∈enc x,v.oneCell'=true)(hH:HoldsK enc z W E off dk)(i:Nat)(hn:0<n)(Z:i+n=dk.size) :
  (Builtin.clear_ #[ts] ty #[.slice (some ⟨E,off+i*z,none⟩) n c]).run P W=.ok (.tuple #[]) (W.setCells E (off+i*z) (flatK enc z (Array.replicate n I)).toList):=by
 have J:=stores_of_holds P hH (i*z) (flatK enc z (Array.replicate n I)).toList (by simp only[Us,size_flatK,Array.size_replicate,<-Gy,Z];exact Bi _) (G4r M U _);obtain⟨m,rfl⟩:∃m,n=m+1:=⟨n - 1,by omega⟩;have hz:=F2v M I (m+1);simp[Builtin.clear_,Xt V,O,Value.cells,hz,J]
end
section
variable {P:Program}
def B6e(P:Program)(f:FuncId)(enc:Nat->List Value)(z:Nat)(e:Nat->Nat->Bool)(E off size:Nat)(w:World):Prop :=
 ∀(m:Nat) (os:Array Obj) (dk:Array Nat),dk.size=size->∀x y,Calls P f #[.agg (enc x).toArray,.agg (enc y).toArray] (sortWorldK enc z w E off m dk os) λev w'=>ev=.returned (.bool (e x y))/\∃q I,w'=grow ((sortWorldK enc z w E off m dk os).drewN q) I
def B6e.at{f:FuncId}{enc:Nat->List Value}{z:Nat}{e:Nat->Nat->Bool}{E off size:Nat}{w I:World}{dk:Array Nat}(h:B6e P f enc z e E off size w)(U:SWK enc z w E off dk I)(hs:dk.size=size)(x y n:Nat)(os:Array Obj) :
  Calls P f #[.agg (enc x).toArray,.agg (enc y).toArray] (grow (I.drewN n) os) λev w'=>ev=.returned (.bool (e x y))/\∃q J,w'=grow ((grow (I.drewN n) os).drewN q) J:=by
 obtain⟨O,L,M⟩:=U.grown n os;rw[M];exact h O L dk hs x y
def B2j(enc:Nat->List Value)(z:Nat)(e:Nat->Nat->Bool)(E off cap:Nat)(d:Array Nat)(w:World)(ev:Ending)(w':World):Prop :=
 ev=.returned (.slice (some ⟨E,off,none⟩) (M7 e d d.size).length cap)/\∃dk,dk.size=d.size/\(∀j,j<(M7 e d d.size).length->(M7 e d d.size)[j]?=some dk[j]!)/\SWK enc z w E off dk w'
def B2j.all{enc:Nat->List Value}{z:Nat}{e:Nat->Nat->Bool}{E off cap:Nat}{d:Array Nat}{w w':World}(h:∀j,j<d.size->Lv e d j=true)(M:SWK enc z w E off d w'):B2j enc z e E off cap d w (.returned (.slice (some ⟨E,off,none⟩) d.size cap)) w':=by
 have L:=C8q h;have J:(M7 e d d.size).length=d.size:=by rw[L];simp
 refine⟨by rw[J],d,rfl,λj I=>?_,M⟩;rw[J]at I;rw[L];simp[I]
set_option maxHeartbeats 4000000 in
def G5q(mixed:P.follows .mixedOrders=true)(fF:P.funcs[46]?=some Tryz.f46)
  (t0:P.underlying 0=some (TypeDesc.tuple #[]))(a0:∀w,(isAgg 0).run P w=.ok false w)(z0:∀w,(Go.sizeOf 0).run P w=.ok 1 w)(v0:∀w,(zeroValue 0).run P w=.ok (Value.tuple #[]) w)
  (t3:P.underlying 3=some (TypeDesc.int IntKind.i64))(a3:∀w,(isAgg 3).run P w=.ok false w)(z3:∀w,(Go.sizeOf 3).run P w=.ok 1 w)(v3:∀w,(zeroValue 3).run P w=.ok (Value.int IntKind.i64 0) w)
  (t4:P.underlying 4=some (TypeDesc.bool))(a4:∀w,(isAgg 4).run P w=.ok false w)(z4:∀w,(Go.sizeOf 4).run P w=.ok 1 w)(v4:∀w,(zeroValue 4).run P w=.ok (Value.bool false) w)
  (tS:P.underlying 38=some (TypeDesc.slice 53))(aS:∀w,(isAgg 38).run P w=.ok false w)(zS:∀w,(Go.sizeOf 38).run P w=.ok 1 w)(vS:∀w,(zeroValue 38).run P w=.ok (Value.slice none 0 0) w)
  (z:Nat)(aE:∀w,(isAgg 53).run P w=.ok true w)(zE:∀w,(Go.sizeOf 53).run P w=.ok z w)(g:FuncId)(eg:∀args w,(callFunc g args).run P w=.ok (.enter g args) w)
  (enc:Nat->List Value)(zr:Nat)(vE:∀w,(zeroValue 53).run P w=.ok (.agg (enc zr).toArray) w)(hk:∀x,(enc x).length=z)(h1:∀x,∀v∈enc x,v.oneCell'=true)(e:Nat->Nat->Bool)(L off cap:Nat)(d:Array Nat)(w:World)
  (hE:B6e P g enc z e L off d.size w)(hH:HoldsK enc z w L off d)(hblk:L<w.heap.size)(ae:d.size<=sm)(ai:d.size<=cap) :
  Calls P 46 #[.slice (some ⟨L,off,none⟩) d.size cap,.func (.func g) #[] #[]] w (B2j enc z e L off cap d w):=by
 have VE:Aside (∀w,(zeroValue 53).run P w=.ok (.agg (enc zr).toArray) w):=vE;clear vE;have HE:Aside (B6e P g enc z e L off d.size w):=hE;have O:Aside (RowK enc z w L off d):=⟨hk,h1,hH,hblk⟩;clear hE hk h1 hH;unfold sm at ae;by_cases h2:d.size<2
 .go_enter fF,ntmps46
  go_wp2
  go_ret
  exact B2j.all (λj hj=>E0h e d j (by omega)) (SWK.start O.out.hH)
 .go_enter fF,ntmps46
  go_wp2
  go_loopg [5] d.size (λg s5 wr=>∃k:Nat,1<=k/\k<=d.size/\d.size - k<=g/\s5=.int .i64 k/\Aside (SWK enc z w L off d wr)/\Aside (∀j,j<k->Lv e d j=true))
  case atStart=>exact⟨1,Bi _,by omega,by omega,rfl,SWK.start O.out.hH,E0h e d⟩
  case round =>
   obtain⟨k,ar,hk,hg,rfl,HW,HA⟩:=hrel;by_cases ag:k<d.size
   .obtain⟨I,rfl⟩:∃I,k=I+1:=⟨k - 1,by omega⟩;have av:IntKind.i64.wrap (I:Int)=(I:Int):=by rw[IntKind.wrap_i64];omega
    have jz:(I:Int)+1<(d.size:Int):=by omega
    have ap:(I:Int)<(d.size:Int):=by omega
    have p0:(0:Int)<=(I:Int)+1:=by omega
    have e0:((I:Int)+1).toNat=I+1:=by omega
    have V:=λ(i:Nat) (hi:i<d.size) (n:Nat) (os:Array Obj)=>SWK.ld HW.out O.out rfl P i hi n os;have l1:=V (I+1) ag;have l0:=V I (by omega);have J:=λn os=>HE.out.at HW.out rfl d[I+1]! d[I]! n os;clear V;obtain⟨x1,W⟩:∃x,x=enc d[I+1]!:=⟨_,rfl⟩;obtain⟨x0,a2⟩:∃x,x=enc d[I]!:=⟨_,rfl⟩;rw[<-W]at l1 J;rw[<-a2]at l0 J;have HX:Aside (x1=enc d[I+1]!/\x0=enc d[I]!):=⟨W,a2⟩;clear W a2;cases M:e d[I+1]! d[I]! with
    |true =>
     rw[M]at J;have U:Aside (e d[I+1]! d[I]! =true):=M;clear M
     go_wp2_with fail
     go_quiet_grown (first| (go_at_fn g;refine Calls.grown_of (J _ _)))
     go_wp2
     have a':Aside (SWK enc z w L off d (grow (wr.drewN nq) osq)):=HW.out.grown nq osq;have ac:Aside (Xa e d (I+1+1) (I+1) d):=Xa.start HA.out (by simp[Lv,U.out]);clear l1 l0 J HX U HA HW;generalize grow (wr.drewN nq) osq=wz at a' |-;obtain⟨n2,a5⟩:∃n2,d.size - (I+1)=n2:=⟨_,rfl⟩;obtain⟨c2,a8⟩:∃c2,cap - (I+1)=c2:=⟨_,rfl⟩;obtain⟨o2,a7⟩:∃o2,off+(I+1)*z=o2:=⟨_,rfl⟩;rw[a5,a8,a7];have N2:Aside (d.size - (I+1)=n2/\cap - (I+1)=c2/\off+(I+1)*z=o2):=⟨a5,a8,a7⟩;have aa:I+1+n2=d.size:=by omega
     clear a5 a8 a7
     go_loopg [5,7] d.size (λg2 s5 s7 ad=>∃(kk k2:Nat) (dk:Array Nat),s5=.int .i64 kk/\s7=.int .i64 k2/\1<=k2/\k2<=n2/\n2 - k2<=g2/\Aside (SWK enc z w L off dk ad)/\Aside (Xa e d (I+1+k2) kk dk))
     case atStart=>exact⟨I+1,1,d,by go_num,by go_num,Bi _,by omega,by omega,a',ac⟩
     case round =>
      obtain⟨kk,k2,dk,rfl,rfl,ao,am,au,Z,HI⟩:=hrel;by_cases ak:k2<n2
      .obtain⟨E,rfl⟩:∃E,k2=E+1:=⟨k2 - 1,by omega⟩;have aj:IntKind.i64.wrap (E:Int)=(E:Int):=by rw[IntKind.wrap_i64];omega
       have iz:(E:Int)+1<(n2:Int):=by omega
       have aw:(E:Int)<(n2:Int):=by omega
       have i0:(0:Int)<=(E:Int)+1:=by omega
       have ie:((E:Int)+1).toNat=E+1:=by omega
       have ah:kk<I+1+(E+1):=HI.out.lt;have a1:=HI.out.size;have hm:I+1+(E+1)<d.size:=by omega
       have o1:o2+(E+1)*z=off+(I+1+(E+1))*z:=by rw[<-N2.out.2.2,Gy (I+1)];omega
       have o0:o2+E*z=off+(I+1+E)*z:=by rw[<-N2.out.2.2,Gy (I+1)];omega
       have V:=λ(i:Nat) (hi:i<dk.size) (n:Nat) (os:Array Obj)=>SWK.ld Z.out O.out a1 P i hi n os;have l1:=V (I+1+(E+1)) (by omega);have l0:=V (I+1+E) (by omega);rw[HI.out.high (I+1+(E+1)) (by omega),<-o1]at l1;rw[HI.out.high (I+1+E) (by omega),<-o0]at l0;have J:=λn os=>HE.out.at Z.out a1 d[I+1+(E+1)]! d[I+1+E]! n os;have ab:(enc d[I+1+(E+1)]!).length=z:=O.out.hk _;clear V o1 o0;obtain⟨x1,W⟩:∃x,x=enc d[I+1+(E+1)]!:=⟨_,rfl⟩;obtain⟨x0,a2⟩:∃x,x=enc d[I+1+E]!:=⟨_,rfl⟩;rw[<-W]at l1 J ab;rw[<-a2]at l0 J;have HX:Aside (x1=enc d[I+1+(E+1)]!):=W;clear W a2;cases M:e d[I+1+(E+1)]! d[I+1+E]! with
       |true =>
        rw[M]at J;have U:Aside (Lv e d (I+1+(E+1))=false):=by
         have:I+1+(E+1) - 1=I+1+E:=by omega
         simp only[Aside,Lv,this,M];simp
        clear M
        go_wp2_with fail
        go_quiet_grown (first| (go_at_fn g;refine Calls.grown_of (J _ _)))
        go_wp2
        go_roundg (n2 - (E+1+1))
        case measure=>omega
        case rel=>exact⟨kk,E+1+1,dk,rfl,by go_num,by omega,by omega,Bi _,Z.out.grown _ _,HI.out.skip U.out⟩
       |false =>
        rw[M]at J;have U:Aside (Lv e d (I+1+(E+1))=true):=by
         have:I+1+(E+1) - 1=I+1+E:=by omega
         simp only[Aside,Lv,this,M];simp
        clear M
        go_wp2_with fail
        go_quiet_grown (first| (go_at_fn g;refine Calls.grown_of (J _ _)))
        have af:=l1 nq osq;have a6:Aside (SWK enc z w L off dk (grow (wr.drewN nq) osq)):=Z.out.grown nq osq;clear l1 l0 J;generalize grow (wr.drewN nq) osq=wq at af a6 |-;have kz:(kk:Int)<(d.size:Int):=by omega
        have aq:Sem.run P (storeCells ⟨L,off+kk*z,none⟩ x1 0) wq=.ok () (wq.setCells L (off+kk*z) x1):=by rw[HX.out];exact stores_of_holds P (a6.out.holds O.out.hblk O.out.hH a1) (kk*z) _ (by rw[O.out.hk,size_flatK];have:=I9 z (show kk+1<=dk.size by omega);rwa [Gy,Xr]at this) (O.out.h1 _)
        go_wp2
        go_roundg (n2 - (E+1+1))
        case measure=>omega
        case rel =>refine⟨kk+1,E+1+1,dk.setIfInBounds kk d[I+1+(E+1)]!,by go_num,by go_num,by omega,by omega,Bi _,?_,HI.out.S9 hm U.out⟩;rw[HX.out];exact SWK.G5e a6.out O.out.hk O.out.hblk kk _ (by omega)
      .have a9:k2=n2:=by omega
       subst a9;have a1:=HI.out.size;have ah:kk<I+1+k2:=HI.out.lt;have J:∀ty,(Builtin.clear_ #[38] ty #[.slice (some ⟨L,off+kk*z,none⟩) (d.size - kk) (cap - kk)]).run P wr=.ok (.tuple #[]) (wr.setCells L (off+kk*z) (flatK enc z (Array.replicate (d.size - kk) zr)).toList) :=
        λty=>F7c tS zr VE.out O.out.hk O.out.h1 (Z.out.holds O.out.hblk O.out.hH a1) kk (by omega) (by omega)
       go_wp2
       go_ret
       have hI:=HI.out;rw[aa]at hI;refine⟨by rw[hI.len];rfl,over dk kk (Array.replicate (d.size - kk) zr),by rw[A9n,a1],λj hj=>?_,SWK.over Z.out O.out.hk O.out.hblk kk _ (by simp;omega)⟩;rw[hI.len]at hj;rw[hI.low j hj,C7n _ _ _ _ (by omega),A6 (by omega)]
    |false =>
     rw[M]at J;have U:Aside (e d[I+1]! d[I]! =false):=M;clear M
     go_wp2_with fail
     go_quiet_grown (first| (go_at_fn g;refine Calls.grown_of (J _ _)))
     go_wp2
     go_roundg (d.size - (I+1+1))
     case measure=>omega
     case rel =>
      refine⟨I+1+1,by omega,by omega,Bi _,by go_num,HW.out.grown _ _,λj hj=>?_⟩;by_cases e1:j=I+1
      .subst e1;simp[Lv,U.out]
      .exact HA.out j (by omega)
   .have:k=d.size:=by omega
    subst this
    go_wp2
    go_ret
    exact B2j.all HA.out HW.out
end
def G0c(g:FuncId)(w:World):Calls Tryz.prog 46 #[.slice none 0 0,.func (.func g) #[] #[]] w λev w'=>ev=.returned (.slice none 0 0)/\w'=w:=by
 go_enter func46,ntmps46
 go_wp2
 go_ret
 exact⟨rfl,rfl⟩
def Vs(l:List Ad):List Ad:=(M7 (λx y=>decide (Ba (Cx l x) (Cx l y)=0)) (Array.range l.length) l.length).map (Cx l)
def Df.take{S:Nat->Prop}{w:World}{β:Names}{i:BI}{sz:Nat}{rs:List (List D)}(h:Df S w β i (.rows sz rs))(n:Nat)(hn:n<=rs.length):Df S w β { i with len:=n } (.rows sz (rs.take n)):=by
 obtain⟨M,q2,q3,q4,U,Z,E⟩:=h;refine⟨M,by simp only[Dx];omega,by simp only;omega,by simp only[Dx];omega,λrow hr=>U row (Hh hr),λrow hr=>Z row (Hh hr),?_⟩;cases I:i.base with
 |none=>rw[I]at E;exact E
 |some b =>rw[I]at E;obtain⟨ty,vs,J,V,O⟩:=E;exact⟨ty,vs,J,V,λr j row d v hr L W=>O r j row d v (by rw[An1]at hr;split at hr;exact hr;cases hr) L W⟩
def F7r{sl:SL}{bx:Aa}{x:Operand}{Cq:List TypeId}{o:Oper}(k:Nat)(l:List Ad)(ho:o.op=.call ⟨.value (.func 46),[x,.func 47].toArray,Cq.toArray⟩)(hx:Ao sl x=.acc k)(hb:A7 bx k=some (.rows 5 (C7 l)))(a1:l.length<=sm)(a7:∀c,c∈l->c.Sm) :
  OpP Tryz.prog o (Ao sl) bx λr bx'=>r=.d (.slice (C7 (Vs l)))/\bx'=Ca k bx:=by
 intro C S w β a hi ha;have hE:Enters Tryz.prog 46:=(Enters.of func46 rfl (by decide));have W:=ha x (mC ho);rw[hx]at W;have a2:=F8 hb;obtain⟨q1,q2,q3,q4,q5,q6,q7⟩:=hi.box k _ a2;generalize L:a.eval x=v at W;cases W;have a9:a.eval (.func 46)=.func (.func 46) #[] #[]:=rfl;refine H6 ?_;unfold Oper.wp;rw[Sp hE ho a9,R6];have U:l.length=(β k).len:=by rw[<-q2];simp[C7]
 have M:([x,.func 47].toArray.map a.eval)++(#[]:Array Value) = #[.slice ((β k).base.map λb=>⟨b,(β k).off*(β k).sz,none⟩) (β k).len (β k).cap,.func (.func 47) #[] #[]]:=by apply J6;rw[Aq5,Ao5];show[a.eval x,Value.func (.func 47) #[] #[]]++[]=_;rw[L];rfl
 rw[M];clear M;generalize I:(β k).base=ob at q7;cases ob with
 |none =>simp only at q7;have a6:l=[]:=Pa (by omega);subst a6;rw[show(β k).len=0 by omega,q7];refine(G0c _ w).mono ?_;rintro e w' ⟨rfl,rfl⟩;refine⟨_,_,_,S,β,⟨rfl,rfl⟩,rfl,hi.sub λj c V=>(E3.1 V).2,Bk.refl S _,.d _ _ (.Jz none 0 λ_=>rfl),λ_ _=>rfl⟩
 |some b =>
  obtain⟨enc,R⟩:=E7d hi a2 I;have J:(Array.range l.length).size=l.length:=Ld;have a0:B6e Tryz.prog 47 enc 5 (λx y=>decide (Ba (Cx l x) (Cx l y)=0)) b ((β k).off*5) (Array.range l.length).size w:=λm os dk _ x y =>
   Ac.E9c (β:=β) (sy:=C.G.sy) (ra:=C.G.ra) (E8h (Cx l x) (D6r a7 x) (Cx l y)) (vs:=[.agg (enc x).toArray,.agg (enc y).toArray]) ⟨rfl,λj c v Z L=>by
    match j,Z,L with
    |0,Z,L=>cases Z;cases L;exact R.row m os dk x
    |1,Z,L=>cases Z;cases L;exact R.row m os dk y
    |j+2,Z,L=>simp at L⟩ (R.Dh m os dk)
  rw[q1,<-U];have hw:=G5q (P:=Tryz.prog) (by kernel_rfl) func46 underlying0 isAgg0 sizeOf0 zeroValue0 underlying3 isAgg3 sizeOf3 zeroValue3
   underlying4 isAgg4 sizeOf4 zeroValue4 underlying38 isAgg38 sizeOf38 zeroValue38
   5 isAgg53 sizeOf53 47 (enters_of func47 (by kernel_rfl) rfl) enc l.length (λw=>by rw[R.zero];exact zeroValue53 w) R.len R.one _ b ((β k).off*5) (β k).cap (Array.range l.length) w a0 R.holds R.lt (by rw[J];exact a1) (by rw[J];omega)
  rw[J]at hw;refine hw.mono ?_;rintro e w' ⟨rfl,dk,a4,E,m,os,rfl⟩;rw[J]at a4 E;obtain⟨g1,g2⟩:=R.inv m os dk a4;have a3:=g1.box k _ (As2 ..);obtain⟨p1,p2,_⟩:=g1.Jq (k:=k) (sz:=5) (As2 ..);have a5:(M7 (λx y=>decide (Ba (Cx l x) (Cx l y)=0)) (Array.range l.length) l.length).length<=l.length:=by unfold M7;rw[Bn];exact D3 (Am3 _ _) (by simp)
  have O:(C7 (dk.toList.map (Cx l))).take (M7 (λx y=>decide (Ba (Cx l x) (Cx l y)=0)) (Array.range l.length) l.length).length=C7 (Vs l):=by
   unfold Vs;generalize M7 (λx y=>decide (Ba (Cx l x) (Cx l y)=0)) (Array.range l.length) l.length=cr at E a5;simp only[C7,<-List.map_take,Fo];have:dk.toList.take cr.length=cr:=by
    refine M3 λj=>?_;rw[An1];split
    .rename_i V;rw[E j V,Vg,Nt (by omega),Ik dk j (by omega)]
    .rename_i V;rw[Z9 (by omega)]
   rw[this]
  have hd:=((a3.take (M7 (λx y=>decide (Ba (Cx l x) (Cx l y)=0)) (Array.range l.length) l.length).length (by simp only[C7,Bn,Us];omega)).ext p2 (λ_ _=>rfl) (λ_ _=>rfl)).B2y λb' a8=>.inr a8;rw[O]at hd;refine⟨_,_,_,_,β,⟨rfl,rfl⟩,rfl,p1.sub λj c V=>?_,g2.trans p2,.d _ _ ?_,λ_ _=>rfl⟩
  .obtain⟨h1,h2⟩:=E3.1 V;exact E3.2 ⟨h1,Wf _ V⟩
  .rw[J];simpa only[Ij,I,q1,Eu]using hd
end Go.Abs
/- instance.Methods -/
namespace Go.Abs
open Go Go.Proofs Tryz
def H4(p:Prog)(cs:List Ad)(x:Ty):List Ad:=(cs.filter λc=>Dd p [] x c.on).map λc=>⟨x,c.name,c.targs⟩
def C9h(p:Prog)(cs:List Ad)(x:Ty):(H4 p cs x).length<=cs.length:=by unfold H4;rw[Bn];exact Am3 _ _
def G7m{p:Prog}{cs:List Ad}{x:Ty}{j:Nat}{c:Ad}(h:cs[j]?=some c):H4 p (cs.take (j+1)) x=H4 p (cs.take j) x++(if Dd p [] x c.on=true then[⟨x,c.name,c.targs⟩]else[]):=by
 unfold H4;rw[Ar5,h];simp only[Option.toList_some,Ap5,Gg]
 congr 1
 by_cases E:Dd p [] x c.on=true <;> simp[E]
def C5m{p:Prog}{cs:List Ad}{x:Ty}(J:x.Sm)(E:∀c,c∈cs->c.Sm):∀c,c∈H4 p cs x->c.Sm:=λc h=>by obtain⟨d,I,rfl⟩:=B1.1 h;have:=E d (Kc.1 I).1;exact⟨J,this.name,this.targs⟩
abbrev W3:List Nat:=[0,1,2,3,4,5,6,7,8,10,14,15,16,17,24]
def D4p(p:Prog)(h:p.Sm)(ts:List Ty)(cs:List Ad)(a1:cs.length<=sm)(J:∀c,c∈cs->c.Sm)(x:Ty)(hx:x.Sm) :
  G5 Tryz.prog 16 [D7 p,Ur ts cs,B6 x] λr=>∃I:List Ad,I.Perm (H4 p cs x)/\I.Pairwise (λa b=>Ba a b<=0)/\r=.d (.slice (C7 (Vs I))):=by
 have hn:=C7m p h;have a4:=We x hx
 (refine G5.L5 func16 rfl (by decide) (by rw[ntmps16];simp) ?_;rw[ntmps16])
 refine sR W3 ?_;refine sC hn W3 ?_;refine sR W3 ?_;refine A0.pp 8 5 8 rfl<|sK λK1 u1=>?_
 (refine sQ W3 λK z=>?_;simp -implicitDefEqProofs only[EV,Nat.reduceEqDiff,Nat.reduceBEq,reduceCtorEq,P9,Rn,Er];apply z;clear z K)
 refine A0.bb (A0.ii cs (X:=Unit) (λj _=>[(5,.box 5 0),(7,.Ah (Ep p) 0),(8,.acc 8),(14,.d (.slice (C7 cs))),(15,A8 cs.length),(16,A8 j)])
  (λj _=>[(5,.cells (Jk x)),(8,.rows 5 (C7 (H4 p (cs.take j) x)))])
  (λ_ _=>True) () trivial sS (by simp[ble,A7,H4,C7]) ?_ ?_)
 rotate_left
 .intro j _ c hd L dp tk a5 _;have U:=J c L;have E:=B5g p h [] (by simp) (by simp) x c.on hx U.on;simp only[show Ar ([]:List Am)=[] from rfl]at E;have V:=B8u id [] [] c.targs U.targs.1 λt ht=>by
   have:=A1v [] [] (by simp) t (U.targs.2 t ht);rw[A7i]at this;exact this
  rw[List.map_id]at V;have e2:=G7m (p:=p) (x:=x) hd;have e3:=C9h p (cs.take j) x;have e4:(cs.take j).length<=sm:=by rw[Dx];omega
  have e5:(C7 (H4 p (cs.take j) x)).length=(H4 p (cs.take j) x).length:=Er _;refine Aq a5 W3 ?_;refine A0.Fk rfl<|sK λK2 u2=>A0.bb ?_
  (refine sV W3 λK z=>?_;refine⟨by omega,_,I0 hd,rfl,?_⟩;(try simp -implicitDefEqProofs only[EV,Nat.reduceAdd,Nat.reduceEqDiff,Nat.reduceBEq,Nat.reduceLeDiff,reduceCtorEq,A7a,Du]);apply z;clear z K)
  cases Z:Dd p [] x c.on with
  |false =>rw[Z]at E;rw[Z,A6 (by simp),I8]at e2;refine sC E W3 ?_;refine A0.ff rfl (A0.kk (u2 _ _ ?_));clear u2 K2;refine lT W3 ?_;exact⟨(),trivial,sS,by simp[ble,A7,e2]⟩
  |true =>
   rw[Z]at E;rw[Z,A9 rfl]at e2;refine sC E W3 ?_;refine A0.tt rfl ?_;generalize hM:C7 (H4 p (cs.take j) x)=MR at*;have e6:C7 (H4 p (cs.take (j+1)) x)=MR++[Du ⟨x,c.name,c.targs⟩]:=by rw[e2,<-hM];simp[C7]
   (refine lG W3 [] 10 [] λK z=>?_;refine ev ?_;refine cc a4 ?_;refine cc V ?_;refine⟨by simp,by(try simp only[e5]);unfold lim sm at*;omega,?_⟩;(try refine ev ?_);apply z;clear z K;try simp only[A4,Ab])
   refine u2 _ _ ?_;clear u2 K2;refine lT W3 ?_;exact⟨(),trivial,sS,by simp[ble,A7,e6,Du]⟩
 intro _ _;rw[Dm];refine Aq B3 W3 ?_;refine A0.stop rfl ?_;simp only[A4,Ab,Ae];refine u1 _ _ ?_;clear u1 K1;have W:(H4 p cs x).length<=sm:=D3 (C9h p cs x) a1;have O:=C5m (p:=p) hx J;generalize H4 p cs x=ml at*;refine A0.M0 [8] [] 1 _ rfl rfl (by decide +kernel) λK M=>?_;simp only[Ia,Ig,Ap0,Ao7];refine ev ?_;refine⟨_,D8r 8 ml rfl rfl rfl rfl W O,?_⟩;rintro r a0 ⟨rfl,I,hp,hs,rfl⟩;simp only[Ho,Kr,Hm];refine ev ?_;refine M _ _ ?_;clear M K;have a3:I.length<=sm:=by rw[hp.length_eq];exact W
 have a2:∀c,c∈I->c.Sm:=λc U=>O c (hp.mem_iff.1 U);refine A0.M0 [6] [] 1 _ rfl rfl (by decide +kernel) λK M=>?_;simp only[Ia,Ig,Ap0,Ao7];refine ev ?_;refine⟨_,F7r 8 I rfl rfl rfl a3 a2,?_⟩;rintro r a0 ⟨rfl,rfl⟩;simp only[Ho,Kr,Hm];refine ev ?_;refine M _ _ ?_;clear M K;exact A0.ret ⟨_,_,by rw[results16];rfl,rfl,I,hp,hs,rfl⟩
end Go.Abs
/- castingsref21.Methods -/
namespace Go.Abs
open Go Go.Proofs Tryz
end Go.Abs
/- the calls on a type, sorted and without doubles: the program's and the reference's are the same up to places -/
namespace Go.Abs
open Go
def A7t{a b c:Ad}(h:Ba a b=0)(k:Ba b c=0):Ba a c=0:=(A1z a b c).2.2 h k
def Wg{a b:Ad}(h:Ba a b=0):Ba b a=0:=by rw[Ru,h];rfl
def A2s(l m:List Ad):Prop:=∀c,c∈l->∃d,d∈m/\Ba c d=0
end Go.Abs
/- names of instances do not know places -/
namespace Go.Abs
open Go
def A0m{a b:Ad}(h:Ba a b=0):a.on.er=b.on.er/\a.name=b.name/\a.targs.map Ty.er=b.targs.map Ty.er:=by
 rw[A5z]at h;by_cases E:Cs a.on b.on=0
 .by_cases I:Bs a.name b.name=0
  .rw[A6 (by simp[E]),A6 (by simp[I])]at h;have:=(Wd _ _).1 h;rw[G9,G9]at this;refine⟨(Wd _ _).1 E,Tm.1 I,?_⟩;injection this
  .rw[A6 (by simp[E]),A9 I]at h;exact absurd h I
 .rw[A9 E]at h;exact absurd h E
end Go.Abs
