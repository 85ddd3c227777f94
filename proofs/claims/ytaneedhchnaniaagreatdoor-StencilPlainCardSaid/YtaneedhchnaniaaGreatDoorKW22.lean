/- slices.CompactFunc on calls, walked with the kit -/
import Derived.Test.YtaneedhchnaniaaGreatDoorKW21
import Derived.Shelf.SlSortCmp.KitK
import Derived.Shelf.RegionOpenPlain
namespace Go.Abs
set_option maxHeartbeats 1000000
set_option linter.all false
open Go Go.Proofs Go.Sort Go.RowKit Go.Lib Tryz
set_option maxRecDepth 100000
section
variable {α:Type} [Inhabited α]
def Kt (e:α→α→Bool)(d:Array α)(j:Nat):Bool:=decide (j=0) || !e d[j]! d[j - 1]!
def Jq (e:α→α→Bool)(d:Array α)(m:Nat):List α:=((List.range m).filter (Kt e d)).map (d[·]!)
variable {e:α→α→Bool} {d dk:Array α} {m k:Nat}
theorem E3f (e:α→α→Bool)(d:Array α):∀j,j < 1→Kt e d j=true:=by
 intro j E;have:j=0:=by omega
 subst this;simp [Kt]
theorem A3m (e:α→α→Bool)(d:Array α)(m:Nat):Jq e d (m+1)=Jq e d m++(if Kt e d m=true then [d[m]!] else []):=by
 unfold Jq;rw [List.range_succ,Ap4,Fz]
 congr 1
 by_cases h:Kt e d m=true <;> simp [h]
theorem B9f (h:∀j,j < m→Kt e d j=true):Jq e d m=(List.range m).map (d[·]!):=by unfold Jq;rw [List.filter_eq_self.2 fun j E=>h j (Xs.1 E)]
structure Vc (e:α→α→Bool)(d:Array α)(m k:Nat)(dk:Array α):Prop where
 size:dk.size=d.size
 len:(Jq e d m).length=k
 lt:k < m
 low:∀j,j < k→(Jq e d m)[j]? = some dk[j]!
 high:∀j,k≤j→dk[j]! = d[j]!
theorem B9c (dk:Array α)(k j:Nat)(x:α)(E:k < dk.size):(dk.setIfInBounds k x)[j]! = if j=k then x else dk[j]!:=by
 simp only [getElem!_def,Array.getElem?_setIfInBounds];by_cases h:j=k
 ·subst h;simp [E]
 ·simp [h,Pp h]
theorem Vc.start (E:∀j,j < k→Kt e d j=true)(hd:Kt e d k=false):Vc e d (k+1) k d where
 size:=rfl
 len:=by rw [A3m,hd,B9f E];simp
 lt:=Nat.lt_succ_self _
 low:=fun j I=>by rw [A3m,hd,B9f E];simp [I]
 high:=fun _ _=>rfl
theorem Vc.Sf (h:Vc e d m k dk)(U:m < d.size)(I:Kt e d m=true):Vc e d (m+1) (k+1) (dk.setIfInBounds k d[m]!) where
 size:=by simp [h.size]
 len:=by rw [A3m,I];simp [h.len]
 lt:=by have:=h.lt;omega
 low:=fun j O=>by
  have R:=h.len;have J:=h.lt;have L:=h.size;rw [A3m,I,A8 rfl,B9c _ _ _ _ (by omega)];by_cases E:j=k
  ·subst E;rw [Jh (by omega),R,At4,A8 rfl];rfl
  ·rw [J6 (by omega),h.low j (by omega),A6 E]
 high:=fun j O=>by have J:=h.lt;have L:=h.size;rw [B9c _ _ _ _ (by omega),A6 (by omega),h.high j (by omega)]
theorem Vc.skip (h:Vc e d m k dk)(E:Kt e d m=false):Vc e d (m+1) k dk where
 size:=h.size
 len:=by rw [A3m,E];simp [h.len]
 lt:=by have:=h.lt;omega
 low:=fun j I=>by rw [A3m,E];simpa using h.low j I
 high:=h.high
end
section
variable {enc:Nat→List Value} {z:Nat}
def over (dk:Array Nat)(i:Nat)(d2:Array Nat):Array Nat:=(Array.range dk.size).map fun j=>if i≤j∧j < i+d2.size then d2[j - i]! else dk[j]!
theorem A8q (dk:Array Nat)(i:Nat)(d2:Array Nat):(over dk i d2).size=dk.size:=by simp [over]
theorem C1s (dk:Array Nat)(i:Nat)(d2:Array Nat)(j:Nat)(h:j < dk.size):(over dk i d2)[j]! = if i≤j∧j < i+d2.size then d2[j - i]! else dk[j]!:=by rw [Jp _ _ (by rw [A8q];exact h)];simp [over]
theorem E7w (dk:Array Nat)(i y:Nat)(h:i < dk.size):over dk i #[y]=dk.setIfInBounds i y:=by
 refine Array.ext (by rw [A8q];simp) fun t E I=>?_;rw [←Jp (over dk i #[y]) t E,←Jp (dk.setIfInBounds i y) t I];have ht:t < dk.size:=by rwa [A8q] at E
 rw [C1s _ _ _ _ ht,B9c _ _ _ _ h];by_cases e:t=i
 ·subst e;simp
 ·rw [A6 (by simp;omega),A6 e]
theorem G1s (E:∀x,(enc x).length=z)(y:Nat):(flatK enc z #[y]).toList=enc y:=by
 refine Lu fun t=>?_;rw [Wd];by_cases h:t < z
 ·have J:t < (flatK enc z #[y]).size:=by simp;exact h
  have I:=get_flatK enc z #[y] t (by simp;exact h);rw [Jp (flatK enc z #[y]) t J,Nat.div_eq_of_lt h,Nat.mod_eq_of_lt h,show (#[y]:Array Nat)[0]! = y from rfl,Jp (enc y) t (by rw [E];exact h)] at I;rw [Rj J,I,Ba (by rw [E];exact h)]
 ·rw [Array.getElem?_eq_none (by simp;omega),Xn (by rw [E];omega)]
theorem E4i (hk:∀x,(enc x).length=z)(dk:Array Nat)(i:Nat)(d2:Array Nat)(h:i+d2.size≤dk.size):setMany (flatK enc z dk) (i*z) (flatK enc z d2).toList=flatK enc z (over dk i d2):=by
 refine ext_get! (by simp [A8q]) fun t ht=>?_;have E:t < dk.size*z:=by simpa using ht
 have k0:0 < z:=by
            rcases Ap2 z with h| h;· subst h;simp at E
            ·exact h
 have J:t / z < dk.size:=(Ar0 k0).2 E;rw [get_setMany _ _ _ t (by simpa using E),get_flatK _ _ _ t E,get_flatK _ _ _ t (by rw [A8q];exact E),C1s _ _ _ _ J];simp only [V3,size_flatK];have L:i*z≤t↔i≤t / z:=(At8 k0).symm;have O:t < i*z+d2.size*z↔t / z < i+d2.size:=by rw [←Ei,Ar0 k0]
 by_cases I:i≤t / z∧t / z < i+d2.size
 ·rw [A8 I,A8 ⟨L.2 I.1,O.2 I.2⟩];have W:=L.2 I.1;obtain⟨s,rfl⟩:∃s,t=i*z+s:=⟨t - i*z,by omega⟩;have V:(i*z+s) / z=i+s / z:=by rw [Tf,Nat.mul_add_div k0]
  have Z:(i*z+s) % z=s % z:=by rw [Tf,Nat.mul_add_mod]
  rw [V] at I;have hs:s < d2.size*z:=(Ar0 k0).1 (by omega);have R:=get_flatK enc z d2 s hs;rw [Jp _ _ (by rw [size_flatK];exact hs)] at R;rw [show i*z+s - i*z=s by omega,V,Z,show i+s / z - i=s / z by omega,←R];rw [Jp _ _ (by simp;exact hs)];simp
 ·rw [A6 I,A6 (fun U=>I ⟨L.1 U.1,O.1 U.2⟩)]
theorem SWK.over {w W:World} {E off:Nat} {dk:Array Nat} (h:SWK enc z w E off dk W)(L:∀x,(enc x).length=z)(I:E < w.heap.size)(i:Nat)(d2:Array Nat)(J:i+d2.size≤dk.size) :
  SWK enc z w E off (Abs.over dk i d2) (W.setCells E (off+i*z) (flatK enc z d2).toList):=by
 obtain⟨n,os,rfl⟩:=h;refine⟨n,os,?_⟩;unfold sortWorldK;rw [setCells_grow os E _ _ _ (by rw [size_putRowK];exact I)]
 congr 1
 unfold putRowK;rw [setCells_putRow _ _ _ _ _ _ (by simp only [V3,size_flatK,←Ei];exact H4 _ J),E4i L dk i d2 J]
theorem SWK.F5g {w W:World} {E off:Nat} {dk:Array Nat} (h:SWK enc z w E off dk W)(J:∀x,(enc x).length=z)(I:E < w.heap.size)(i y:Nat)(L:i < dk.size) :
  SWK enc z w E off (dk.setIfInBounds i y) (W.setCells E (off+i*z) (enc y)):=by
 have:=SWK.over h J I i #[y] (by simp;omega)
 rwa [E7w _ _ _ L,G1s J] at this
theorem E7j (E:∀x,(enc x).length=z)(y n:Nat):(Builtin.zeroCells (enc y).toArray n)=flatK enc z (Array.replicate n y):=by
 unfold Builtin.zeroCells flatK;simp only [List.size_toArray,E,Array.size_replicate];refine Array.map_congr_left fun t ht=>?_;have ht:t < n*z:=by simpa using ht
 have k0:0 < z:=by
            rcases Ap2 z with h| h;· subst h;simp at ht
            ·exact h
 have:t / z < n:=(Ar0 k0).2 ht;rw [Jp (Array.replicate n y) _ (by simpa using this)];simp
theorem F0b (J:∀x,(enc x).length=z)(O:∀x,∀v∈enc x,v.oneCell'=true)(d2:Array Nat):∀v∈(flatK enc z d2).toList,v.oneCell'=true:=fun v L=>by
 obtain⟨t,ht,rfl⟩:=Array.getElem_of_mem (Array.mem_toList_iff.1 L);have E:t < d2.size*z:=by simpa using ht
 have k0:0 < z:=by
            rcases Ap2 z with h| h;· subst h;simp at E
            ·exact h
 have I:=get_flatK enc z d2 t E;rw [Jp (flatK enc z d2) t ht,Jp (enc _) (t % z) (by rw [J];exact Xp _ k0)] at I;rw [I];exact O _ _ (F7 _)
theorem F7t {P:Program} {W:World} {R O ty:TypeId} {E off n c:Nat} {dk:Array Nat} (U:P.underlying R=some (TypeDesc.slice O))(I:Nat)(Z:∀w,(zeroValue O).run P w=.ok (.agg (enc I).toArray) w)
  (L:∀x,(enc x).length=z) (h1:∀x,∀v∈enc x,v.oneCell'=true) (hH:HoldsK enc z W E off dk) (i:Nat) (hn:0 < n) (V:i+n=dk.size) :
  (Builtin.clear_ #[R] ty #[.slice (some ⟨E,off+i*z,none⟩) n c]).run P W=.ok (.tuple #[]) (W.setCells E (off+i*z) (flatK enc z (Array.replicate n I)).toList):=by
 have J:=stores_of_holds P hH (i*z) (flatK enc z (Array.replicate n I)).toList (by simp only [V3,size_flatK,Array.size_replicate,←Ei,V];exact Cq _) (F0b L h1 _);obtain⟨m,rfl⟩:∃m,n=m+1:=⟨n - 1,by omega⟩;have hz:=E7j L I (m+1);simp [Builtin.clear_,Zn U,Z,Value.cells,hz,J]
end
section
variable {P:Program}
def B0t (P:Program)(f:FuncId)(enc:Nat→List Value)(z:Nat)(e:Nat→Nat→Bool)(E off size:Nat)(w:World):Prop :=
 ∀(m:Nat) (os:Array Obj) (dk:Array Nat),dk.size=size→∀x y,Calls P f #[.agg (enc x).toArray,.agg (enc y).toArray] (sortWorldK enc z w E off m dk os) fun ev w'=>ev=.returned (.bool (e x y))∧∃q I,w'=grow ((sortWorldK enc z w E off m dk os).drewN q) I
theorem B0t.at {f:FuncId} {enc:Nat→List Value} {z:Nat} {e:Nat→Nat→Bool} {E off size:Nat} {w I:World} {dk:Array Nat} (h:B0t P f enc z e E off size w)(O:SWK enc z w E off dk I)(hs:dk.size=size)(x y n:Nat)(os:Array Obj) :
  Calls P f #[.agg (enc x).toArray,.agg (enc y).toArray] (grow (I.drewN n) os) fun ev w'=>ev=.returned (.bool (e x y))∧∃q L,w'=grow ((grow (I.drewN n) os).drewN q) L:=by
 obtain⟨U,J,R⟩:=O.grown n os;rw [R];exact h U J dk hs x y
def B1q (enc:Nat→List Value)(z:Nat)(e:Nat→Nat→Bool)(E off cap:Nat)(d:Array Nat)(w:World)(ev:Ending)(w':World):Prop :=
 ev=.returned (.slice (some ⟨E,off,none⟩) (Jq e d d.size).length cap)∧∃dk,dk.size=d.size∧(∀j,j < (Jq e d d.size).length→(Jq e d d.size)[j]? = some dk[j]!)∧SWK enc z w E off dk w'
theorem B1q.all {enc:Nat→List Value} {z:Nat} {e:Nat→Nat→Bool} {E off cap:Nat} {d:Array Nat} {w w':World} (h:∀j,j < d.size→Kt e d j=true)(O:SWK enc z w E off d w'):B1q enc z e E off cap d w (.returned (.slice (some ⟨E,off,none⟩) d.size cap)) w':=by
 have I:=B9f h;have J:(Jq e d d.size).length=d.size:=by rw [I];simp
 refine⟨by rw [J],d,rfl,fun j L=>?_,O⟩;rw [J] at L;rw [I];simp [L]
set_option maxHeartbeats 4000000 in
theorem F9q (mixed:P.follows .mixedOrders=true)(fF:P.funcs[67]? = some f67)
  (t0:P.underlying 0=some (TypeDesc.tuple #[])) (a0:∀w,(isAgg 0).run P w=.ok false w) (z0:∀w,(Go.sizeOf 0).run P w=.ok 1 w) (v0:∀w,(zeroValue 0).run P w=.ok (Value.tuple #[]) w)
  (t3:P.underlying 3=some (TypeDesc.int IntKind.i64)) (a3:∀w,(isAgg 3).run P w=.ok false w) (z3:∀w,(Go.sizeOf 3).run P w=.ok 1 w) (v3:∀w,(zeroValue 3).run P w=.ok (Value.int IntKind.i64 0) w)
  (t4:P.underlying 4=some (TypeDesc.bool)) (a4:∀w,(isAgg 4).run P w=.ok false w) (z4:∀w,(Go.sizeOf 4).run P w=.ok 1 w) (v4:∀w,(zeroValue 4).run P w=.ok (Value.bool false) w)
  (tS:P.underlying 34=some (TypeDesc.slice 31)) (aS:∀w,(isAgg 34).run P w=.ok false w) (zS:∀w,(Go.sizeOf 34).run P w=.ok 1 w) (vS:∀w,(zeroValue 34).run P w=.ok (Value.slice none 0 0) w)
  (z:Nat) (aE:∀w,(isAgg 31).run P w=.ok true w) (zE:∀w,(Go.sizeOf 31).run P w=.ok z w) (g:FuncId) (eg:∀args w,(callFunc g args).run P w=.ok (.enter g args) w)
  (enc:Nat→List Value) (zr:Nat) (vE:∀w,(zeroValue 31).run P w=.ok (.agg (enc zr).toArray) w) (hk:∀x,(enc x).length=z) (h1:∀x,∀v∈enc x,v.oneCell'=true) (e:Nat→Nat→Bool) (L off cap:Nat) (d:Array Nat) (w:World)
  (hE:B0t P g enc z e L off d.size w) (hH:HoldsK enc z w L off d) (hblk:L < w.heap.size) (ac:d.size≤sm) (ai:d.size≤cap) :
  Calls P 67 #[.slice (some ⟨L,off,none⟩) d.size cap,.func (.func g) #[] #[]] w (B1q enc z e L off cap d w):=by
 have VE:Aside (∀w,(zeroValue 31).run P w=.ok (.agg (enc zr).toArray) w):=vE;clear vE;have HE:Aside (B0t P g enc z e L off d.size w):=hE;have U:Aside (RowK enc z w L off d):=⟨hk,h1,hH,hblk⟩;clear hE hk h1 hH;unfold sm at ac;by_cases h2:d.size < 2
 ·go_enter fF,ntmps67
  go_wp2
  go_ret
  exact B1q.all (fun j hj=>E3f e d j (by omega)) (SWK.start U.out.hH)
 ·go_enter fF,ntmps67
  go_wp2
  go_loopg [5] d.size (fun g s5 wr=>∃k:Nat,1≤k∧k≤d.size∧d.size - k≤g∧s5=.int .i64 k∧Aside (SWK enc z w L off d wr)∧Aside (∀j,j < k→Kt e d j=true))
  case atStart=>exact⟨1,Cq _,by omega,by omega,rfl,SWK.start U.out.hH,E3f e d⟩
  case round =>
   obtain⟨k,au,hk,hg,rfl,HW,HA⟩:=hrel;by_cases ag:k < d.size
   ·obtain⟨I,rfl⟩:∃I,k=I+1:=⟨k - 1,by omega⟩;have ap:IntKind.i64.wrap (I:Int)=(I:Int):=by rw [IntKind.wrap_i64];omega
    have jz:(I:Int)+1 < (d.size:Int):=by omega
    have aq:(I:Int) < (d.size:Int):=by omega
    have p0:(0:Int)≤(I:Int)+1:=by omega
    have e0:((I:Int)+1).toNat=I+1:=by omega
    have W:=fun (i:Nat) (hi:i < d.size) (n:Nat) (os:Array Obj)=>SWK.ld HW.out U.out rfl P i hi n os;have l1:=W (I+1) ag;have l0:=W I (by omega);have J:=fun n os=>HE.out.at HW.out rfl d[I+1]! d[I]! n os;clear W;obtain⟨x1,V⟩:∃x,x=enc d[I+1]!:=⟨_,rfl⟩;obtain⟨x0,a2⟩:∃x,x=enc d[I]!:=⟨_,rfl⟩;rw [←V] at l1 J;rw [←a2] at l0 J;have HX:Aside (x1=enc d[I+1]!∧x0=enc d[I]!):=⟨V,a2⟩;clear V a2;cases O:e d[I+1]! d[I]! with
    |true =>
     rw [O] at J;have R:Aside (e d[I+1]! d[I]! = true):=O;clear O
     go_wp2_with fail
     go_quiet_grown (first| (go_at_fn g;refine Calls.grown_of (J _ _)))
     go_wp2
     have aa:Aside (SWK enc z w L off d (grow (wr.drewN nq) osq)):=HW.out.grown nq osq;have ah:Aside (Vc e d (I+1+1) (I+1) d):=Vc.start HA.out (by simp [Kt,R.out]);clear l1 l0 J HX R HA HW;generalize grow (wr.drewN nq) osq=wz at aa ⊢;obtain⟨n2,a7⟩:∃n2,d.size - (I+1)=n2:=⟨_,rfl⟩;obtain⟨c2,a6⟩:∃c2,cap - (I+1)=c2:=⟨_,rfl⟩;obtain⟨o2,a8⟩:∃o2,off+(I+1)*z=o2:=⟨_,rfl⟩;rw [a7,a6,a8];have N2:Aside (d.size - (I+1)=n2∧cap - (I+1)=c2∧off+(I+1)*z=o2):=⟨a7,a6,a8⟩;have a':I+1+n2=d.size:=by omega
     clear a7 a6 a8
     go_loopg [5,7] d.size (fun g2 s5 s7 ad=>∃(kk k2:Nat) (dk:Array Nat),s5=.int .i64 kk∧s7=.int .i64 k2∧1≤k2∧k2≤n2∧n2 - k2≤g2∧Aside (SWK enc z w L off dk ad)∧Aside (Vc e d (I+1+k2) kk dk))
     case atStart=>exact⟨I+1,1,d,by go_num,by go_num,Cq _,by omega,by omega,aa,ah⟩
     case round =>
      obtain⟨kk,k2,dk,rfl,rfl,ak,aj,a9S,Z,HI⟩:=hrel;by_cases ao:k2 < n2
      ·obtain⟨E,rfl⟩:∃E,k2=E+1:=⟨k2 - 1,by omega⟩;have am:IntKind.i64.wrap (E:Int)=(E:Int):=by rw [IntKind.wrap_i64];omega
       have iz:(E:Int)+1 < (n2:Int):=by omega
       have ar:(E:Int) < (n2:Int):=by omega
       have i0:(0:Int)≤(E:Int)+1:=by omega
       have ie:((E:Int)+1).toNat=E+1:=by omega
       have af:kk < I+1+(E+1):=HI.out.lt;have a1:=HI.out.size;have hm:I+1+(E+1) < d.size:=by omega
       have o1:o2+(E+1)*z=off+(I+1+(E+1))*z:=by rw [←N2.out.2.2,Ei (I+1)];omega
       have o0:o2+E*z=off+(I+1+E)*z:=by rw [←N2.out.2.2,Ei (I+1)];omega
       have W:=fun (i:Nat) (hi:i < dk.size) (n:Nat) (os:Array Obj)=>SWK.ld Z.out U.out a1 P i hi n os;have l1:=W (I+1+(E+1)) (by omega);have l0:=W (I+1+E) (by omega);rw [HI.out.high (I+1+(E+1)) (by omega),←o1] at l1;rw [HI.out.high (I+1+E) (by omega),←o0] at l0;have J:=fun n os=>HE.out.at Z.out a1 d[I+1+(E+1)]! d[I+1+E]! n os;have ab:(enc d[I+1+(E+1)]!).length=z:=U.out.hk _;clear W o1 o0;obtain⟨x1,V⟩:∃x,x=enc d[I+1+(E+1)]!:=⟨_,rfl⟩;obtain⟨x0,a2⟩:∃x,x=enc d[I+1+E]!:=⟨_,rfl⟩;rw [←V] at l1 J ab;rw [←a2] at l0 J;have HX:Aside (x1=enc d[I+1+(E+1)]!):=V;clear V a2;cases O:e d[I+1+(E+1)]! d[I+1+E]! with
       |true =>
        rw [O] at J;have R:Aside (Kt e d (I+1+(E+1))=false):=by
         have:I+1+(E+1) - 1=I+1+E:=by omega
         simp only [Aside,Kt,this,O];simp
        clear O
        go_wp2_with fail
        go_quiet_grown (first| (go_at_fn g;refine Calls.grown_of (J _ _)))
        go_wp2
        go_roundg (n2 - (E+1+1))
        case measure=>omega
        case rel=>exact⟨kk,E+1+1,dk,rfl,by go_num,by omega,by omega,Cq _,Z.out.grown _ _,HI.out.skip R.out⟩
       |false =>
        rw [O] at J;have R:Aside (Kt e d (I+1+(E+1))=true):=by
         have:I+1+(E+1) - 1=I+1+E:=by omega
         simp only [Aside,Kt,this,O];simp
        clear O
        go_wp2_with fail
        go_quiet_grown (first| (go_at_fn g;refine Calls.grown_of (J _ _)))
        have ae:=l1 nq osq;have a5:Aside (SWK enc z w L off dk (grow (wr.drewN nq) osq)):=Z.out.grown nq osq;clear l1 l0 J;generalize grow (wr.drewN nq) osq=wq at ae a5 ⊢;have kz:(kk:Int) < (d.size:Int):=by omega
        have av:Sem.run P (storeCells ⟨L,off+kk*z,none⟩ x1 0) wq=.ok () (wq.setCells L (off+kk*z) x1):=by rw [HX.out];exact stores_of_holds P (a5.out.holds U.out.hblk U.out.hH a1) (kk*z) _ (by rw [U.out.hk,size_flatK];have:=H4 z (show kk+1≤dk.size by omega);rwa [Ei,At1] at this) (U.out.h1 _)
        go_wp2
        go_roundg (n2 - (E+1+1))
        case measure=>omega
        case rel =>refine⟨kk+1,E+1+1,dk.setIfInBounds kk d[I+1+(E+1)]!,by go_num,by go_num,by omega,by omega,Cq _,?_,HI.out.Sf hm R.out⟩;rw [HX.out];exact SWK.F5g a5.out U.out.hk U.out.hblk kk _ (by omega)
      ·have a9:k2=n2:=by omega
       subst a9;have a1:=HI.out.size;have af:kk < I+1+k2:=HI.out.lt;have J:∀ty,(Builtin.clear_ #[34] ty #[.slice (some ⟨L,off+kk*z,none⟩) (d.size - kk) (cap - kk)]).run P wr=.ok (.tuple #[]) (wr.setCells L (off+kk*z) (flatK enc z (Array.replicate (d.size - kk) zr)).toList) :=
        fun ty=>F7t tS zr VE.out U.out.hk U.out.h1 (Z.out.holds U.out.hblk U.out.hH a1) kk (by omega) (by omega)
       go_wp2
       go_ret
       have hI:=HI.out;rw [a'] at hI;refine⟨by rw [hI.len];rfl,over dk kk (Array.replicate (d.size - kk) zr),by rw [A8q,a1],fun j hj=>?_,SWK.over Z.out U.out.hk U.out.hblk kk _ (by simp;omega)⟩;rw [hI.len] at hj;rw [hI.low j hj,C1s _ _ _ _ (by omega),A6 (by omega)]
    |false =>
     rw [O] at J;have R:Aside (e d[I+1]! d[I]! = false):=O;clear O
     go_wp2_with fail
     go_quiet_grown (first| (go_at_fn g;refine Calls.grown_of (J _ _)))
     go_wp2
     go_roundg (d.size - (I+1+1))
     case measure=>omega
     case rel =>
      refine⟨I+1+1,by omega,by omega,Cq _,by go_num,HW.out.grown _ _,fun j hj=>?_⟩;by_cases e1:j=I+1
      ·subst e1;simp [Kt,R.out]
      ·exact HA.out j (by omega)
   ·have:k=d.size:=by omega
    subst this
    go_wp2
    go_ret
    exact B1q.all HA.out HW.out
end
theorem E5j (g:FuncId)(w:World):Calls prog 67 #[.slice none 0 0,.func (.func g) #[] #[]] w fun ev w'=>ev=.returned (.slice none 0 0)∧w'=w:=by
 go_enter func67,ntmps67
 go_wp2
 go_ret
 exact⟨rfl,rfl⟩
def H6 (l:List Au):List Au:=(Jq (fun x y=>decide (Bj (Cm l x) (Cm l y)=0)) (Array.range l.length) l.length).map (Cm l)
theorem Dh.take {S:Nat→Prop} {w:World} {β:Names} {i:BI} {sz:Nat} {rs:List (List D)} (h:Dh S w β i (.rows sz rs))(n:Nat)(hn:n≤rs.length):Dh S w β { i with len:=n } (.rows sz (rs.take n)):=by
 obtain⟨O,q2,Z,q4,V,U,E⟩:=h;refine⟨O,by simp only [Cw];omega,by simp only;omega,by simp only [Cw];omega,fun row hr=>V row (Iq hr),fun row hr=>U row (Iq hr),?_⟩;cases I:i.base with
 |none=>rw [I] at E;exact E
 |some b =>rw [I] at E;obtain⟨ty,vs,W,L,R⟩:=E;exact⟨ty,vs,W,L,fun r j row d v hr hd J=>R r j row d v (by rw [Yd] at hr;split at hr;exact hr;cases hr) hd J⟩
theorem G4b {sl:SL} {bx:Ab} {x:Operand} {Co:List TypeId} {o:Oper} (k:Nat)(l:List Au)(ho:o.op=.call ⟨.value (.func 67),[x,.func 68].toArray,Co.toArray⟩)(hx:Ao sl x=.acc k)(hb:A7 bx k=some (.rows 5 (Dn l)))(a2:l.length≤sm)(a6:∀c,c∈l→c.Sm) :
  OpP prog o (Ao sl) bx fun r bx'=>r=.d (.slice (Dn (H6 l)))∧bx'=C3 k bx:=by
 intro C S w β a hi ha;have hE:Enters prog 67:=(Enters.of func67 rfl (by decide));have Z:=ha x (mC ho);rw [hx] at Z;have a3:=G0 hb;obtain⟨q1,q2,q3,q4,q5,q6,q7⟩:=hi.box k _ a3;generalize L:a.eval x=v at Z;cases Z;have a9:a.eval (.func 67)=.func (.func 67) #[] #[]:=rfl;refine He ?_;unfold Oper.wp;rw [Rn hE ho a9,R0];have U:l.length=(β k).len:=by rw [←q2];simp [Dn]
 have O:([x,.func 68].toArray.map a.eval)++(#[]:Array Value) = #[.slice ((β k).base.map fun b=>⟨b,(β k).off*(β k).sz,none⟩) (β k).len (β k).cap,.func (.func 68) #[] #[]]:=by apply I6;rw [Aq1,Ao9];show [a.eval x,Value.func (.func 68) #[] #[]]++[]=_;rw [L];rfl
 rw [O];clear O;generalize E:(β k).base=ob at q7;cases ob with
 |none =>simp only at q7;have a7:l=[]:=Rk (by omega);subst a7;rw [show (β k).len=0 by omega,q7];refine (E5j _ w).mono ?_;rintro e w' ⟨rfl,rfl⟩;refine⟨_,_,_,S,β,⟨rfl,rfl⟩,rfl,hi.sub fun j c W=>(Dq.1 W).2,Bo.refl S _,.d _ _ (.Ja none 0 fun _=>rfl),fun _ _=>rfl⟩
 |some b =>
  obtain⟨enc,R⟩:=D0p hi a3 E;have I:(Array.range l.length).size=l.length:=Qa;have a1:B0t prog 68 enc 5 (fun x y=>decide (Bj (Cm l x) (Cm l y)=0)) b ((β k).off*5) (Array.range l.length).size w:=fun m os dk _ x y =>
   Ac.E9t (β:=β) (sy:=C.G.sy) (ra:=C.G.ra) (G3y (Cm l x) (E2g a6 x) (Cm l y)) (vs:=[.agg (enc x).toArray,.agg (enc y).toArray]) ⟨rfl,fun j c v hc L=>by
    match j,hc,L with
    | 0,hc,L=>cases hc;cases L;exact R.row m os dk x
    | 1,hc,L=>cases hc;cases L;exact R.row m os dk y
    |j+2,hc,L=>simp at L⟩ (R.D9 m os dk)
  rw [q1,←U];have hw:=F9q (P:=prog) (by kernel_rfl) func67 underlying0 isAgg0 sizeOf0 zeroValue0 underlying3 isAgg3 sizeOf3 zeroValue3
   underlying4 isAgg4 sizeOf4 zeroValue4 underlying34 isAgg34 sizeOf34 zeroValue34
   5 isAgg31 sizeOf31 68 (enters_of func68 (by kernel_rfl) rfl) enc l.length (fun w=>by rw [R.zero];exact zeroValue31 w) R.len R.one _ b ((β k).off*5) (β k).cap (Array.range l.length) w a1 R.holds R.lt (by rw [I];exact a2) (by rw [I];omega)
  rw [I] at hw;refine hw.mono ?_;rintro e w' ⟨rfl,dk,a4,J,m,os,rfl⟩;rw [I] at a4 J;obtain⟨g1,g2⟩:=R.inv m os dk a4;have a0:=g1.box k _ (An8 ..);obtain⟨p1,p2,_⟩:=g1.Kx (k:=k) (sz:=5) (An8 ..);have a8:(Jq (fun x y=>decide (Bj (Cm l x) (Cm l y)=0)) (Array.range l.length) l.length).length≤l.length:=by unfold Jq;rw [B6];exact Dk (Ak8 _ _) (by simp)
  have V:(Dn (dk.toList.map (Cm l))).take (Jq (fun x y=>decide (Bj (Cm l x) (Cm l y)=0)) (Array.range l.length) l.length).length=Dn (H6 l):=by
   unfold H6;generalize Jq (fun x y=>decide (Bj (Cm l x) (Cm l y)=0)) (Array.range l.length) l.length=cr at J a8;simp only [Dn,←List.map_take,Fx];have:dk.toList.take cr.length=cr:=by
    refine Lu fun j=>?_;rw [Yd];split
    ·rename_i W;rw [J j W,Wd,Rj (by omega),Jp dk j (by omega)]
    ·rename_i W;rw [Xn (by omega)]
   rw [this]
  have hd:=((a0.take (Jq (fun x y=>decide (Bj (Cm l x) (Cm l y)=0)) (Array.range l.length) l.length).length (by simp only [Dn,B6,V3];omega)).ext p2 (fun _ _=>rfl) (fun _ _=>rfl)).A9y fun b' a5=>.inr a5;rw [V] at hd;refine⟨_,_,_,_,β,⟨rfl,rfl⟩,rfl,p1.sub fun j c W=>?_,g2.trans p2,.d _ _ ?_,fun _ _=>rfl⟩
  ·obtain⟨h1,h2⟩:=Dq.1 W;exact Dq.2 ⟨h1,Ar6 _ W⟩
  ·rw [I];simpa only [Hk,E,q1,E8] using hd
end Go.Abs
