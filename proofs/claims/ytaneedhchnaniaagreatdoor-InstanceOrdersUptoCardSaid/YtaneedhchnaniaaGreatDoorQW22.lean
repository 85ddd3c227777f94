/- slices.CompactFunc on calls, walked with the kit -/
import Derived.Test.YtaneedhchnaniaaGreatDoorQW21
import Derived.Shelf.SlSortCmp.KitK
import Derived.Shelf.RegionOpenPlain
import Derived.Deep.LoopGhost
namespace Go.Abs
set_option maxHeartbeats 1000000
set_option linter.unusedSimpArgs false
set_option linter.unusedVariables false
open Go Go.Proofs Go.Sort Go.RowKit Go.Lib Tryz
set_option maxRecDepth 100000
section
variable {α:Type} [Inhabited α]
def keepR (e:α→α→Bool)(d:Array α)(j:Nat):Bool:=decide (j=0) || !e d[j]! d[j - 1]!
def compR (e:α→α→Bool)(d:Array α)(m:Nat):List α:=((List.range m).filter (keepR e d)).map (d[·]!)
variable {e:α→α→Bool} {d dk:Array α} {m k:Nat}
theorem keepR_one (e:α→α→Bool)(d:Array α):∀ j,j < 1→keepR e d j=true:=by
 intro j hj
 have:j=0:=by omega
 subst this;simp [keepR]
theorem compR_succ (e:α→α→Bool)(d:Array α)(m:Nat):compR e d (m+1)=compR e d m++(if keepR e d m=true then [d[m]!] else []):=by
 unfold compR
 rw [List.range_succ,List.filter_append,List.map_append]
 congr 1
 by_cases h:keepR e d m=true <;> simp [h]
theorem compR_all (h:∀ j,j < m→keepR e d j=true):compR e d m=(List.range m).map (d[·]!):=by
 unfold compR
 rw [List.filter_eq_self.2 fun j hj=>h j (List.mem_range.1 hj)]
structure CInv (e:α→α→Bool)(d:Array α)(m k:Nat)(dk:Array α):Prop where
 size:dk.size=d.size
 len:(compR e d m).length=k
 lt:k < m
 low:∀ j,j < k→(compR e d m)[j]? = some dk[j]!
 high:∀ j,k≤j→dk[j]! = d[j]!
theorem set_get (dk:Array α)(k j:Nat)(x:α)(hk:k < dk.size):(dk.setIfInBounds k x)[j]! = if j=k then x else dk[j]!:=by
 simp only [getElem!_def,Array.getElem?_setIfInBounds]
 by_cases h:j=k
 ·subst h;simp [hk]
 ·simp [h,Ne.symm h]
theorem CInv.start (hall:∀ j,j < k→keepR e d j=true)(hd:keepR e d k=false):CInv e d (k+1) k d where
 size:=rfl
 len:=by rw [compR_succ,hd,compR_all hall];simp
 lt:=Nat.lt_succ_self _
 low:=fun j hj=>by rw [compR_succ,hd,compR_all hall];simp [hj]
 high:=fun _ _=>rfl
theorem CInv.keep (h:CInv e d m k dk)(hm:m < d.size)(hk:keepR e d m=true):CInv e d (m+1) (k+1) (dk.setIfInBounds k d[m]!) where
 size:=by simp [h.size]
 len:=by rw [compR_succ,hk];simp [h.len]
 lt:=by have:=h.lt;omega
 low:=fun j hj=>by
  have h1:=h.len
  have h2:=h.lt
  have h3:=h.size
  rw [compR_succ,hk,if_pos rfl,set_get _ _ _ _ (by omega)]
  by_cases e1:j=k
  ·subst e1
   rw [List.getElem?_append_right (by omega),h1,Nat.sub_self,if_pos rfl];rfl
  ·rw [List.getElem?_append_left (by omega),h.low j (by omega),if_neg e1]
 high:=fun j hj=>by
  have h2:=h.lt
  have h3:=h.size
  rw [set_get _ _ _ _ (by omega),if_neg (by omega),h.high j (by omega)]
theorem CInv.skip (h:CInv e d m k dk)(hk:keepR e d m=false):CInv e d (m+1) k dk where
 size:=h.size
 len:=by rw [compR_succ,hk];simp [h.len]
 lt:=by have:=h.lt;omega
 low:=fun j hj=>by rw [compR_succ,hk];simpa using h.low j hj
 high:=h.high
end
section
variable {enc:Nat→List Value} {z:Nat}
def over (dk:Array Nat)(i:Nat)(d2:Array Nat):Array Nat:=(Array.range dk.size).map fun j=>if i≤j∧j < i+d2.size then d2[j - i]! else dk[j]!
theorem size_over (dk:Array Nat)(i:Nat)(d2:Array Nat):(over dk i d2).size=dk.size:=by simp [over]
theorem get_over (dk:Array Nat)(i:Nat)(d2:Array Nat)(j:Nat)(h:j < dk.size):(over dk i d2)[j]! = if i≤j∧j < i+d2.size then d2[j - i]! else dk[j]!:=by
 rw [getElem!_pos _ _ (by rw [size_over];exact h)]
 simp [over]
theorem over_one (dk:Array Nat)(i y:Nat)(h:i < dk.size):over dk i #[y]=dk.setIfInBounds i y:=by
 refine Array.ext (by rw [size_over];simp) fun t h1 h2=>?_
 rw [← getElem!_pos (over dk i #[y]) t h1,← getElem!_pos (dk.setIfInBounds i y) t h2]
 have ht:t < dk.size:=by rwa [size_over] at h1
 rw [get_over _ _ _ _ ht,set_get _ _ _ _ h]
 by_cases e:t=i
 ·subst e;simp
 ·rw [if_neg (by simp;omega),if_neg e]
theorem flat_one (hk:∀ x,(enc x).length=z)(y:Nat):(flatK enc z #[y]).toList=enc y:=by
 refine List.ext_getElem? fun t=>?_
 rw [Array.getElem?_toList]
 by_cases h:t < z
 ·have h1:t < (flatK enc z #[y]).size:=by simp;exact h
  have h2:=get_flatK enc z #[y] t (by simp;exact h)
  rw [getElem!_pos (flatK enc z #[y]) t h1,Nat.div_eq_of_lt h,Nat.mod_eq_of_lt h,show (#[y]:Array Nat)[0]! = y from rfl,getElem!_pos (enc y) t (by rw [hk];exact h)] at h2
  rw [Array.getElem?_eq_getElem h1,h2,List.getElem?_eq_getElem (by rw [hk];exact h)]
 ·rw [Array.getElem?_eq_none (by simp;omega),List.getElem?_eq_none (by rw [hk];omega)]
theorem setMany_over (hk:∀ x,(enc x).length=z)(dk:Array Nat)(i:Nat)(d2:Array Nat)(h:i+d2.size≤dk.size):setMany (flatK enc z dk) (i*z) (flatK enc z d2).toList=flatK enc z (over dk i d2):=by
 refine ext_get! (by simp [size_over]) fun t ht=>?_
 have ht':t < dk.size*z:=by simpa using ht
 have k0:0 < z:=by
            rcases Nat.eq_zero_or_pos z with h | h;· subst h;simp at ht'
            ·exact h
 have htz:t / z < dk.size:=(Nat.div_lt_iff_lt_mul k0).2 ht'
 rw [get_setMany _ _ _ t (by simpa using ht'),get_flatK _ _ _ t ht',get_flatK _ _ _ t (by rw [size_over];exact ht'),get_over _ _ _ _ htz]
 simp only [Array.length_toList,size_flatK]
 have e1:i*z≤t↔i≤t / z:=(Nat.le_div_iff_mul_le k0).symm
 have e2:t < i*z+d2.size*z↔t / z < i+d2.size:=by rw [← Nat.add_mul,Nat.div_lt_iff_lt_mul k0]
 by_cases hc:i≤t / z∧t / z < i+d2.size
 ·rw [if_pos hc,if_pos ⟨e1.2 hc.1,e2.2 hc.2⟩]
  have hle:=e1.2 hc.1
  obtain⟨s,rfl⟩:∃ s,t=i*z+s:=⟨t - i*z,by omega⟩
  have es:(i*z+s) / z=i+s / z:=by rw [Nat.mul_comm,Nat.mul_add_div k0]
  have em:(i*z+s) % z=s % z:=by rw [Nat.mul_comm,Nat.mul_add_mod]
  rw [es] at hc
  have hs:s < d2.size*z:=(Nat.div_lt_iff_lt_mul k0).1 (by omega)
  have hg:=get_flatK enc z d2 s hs
  rw [getElem!_pos _ _ (by rw [size_flatK];exact hs)] at hg
  rw [show i*z+s - i*z=s by omega,es,em,show i+s / z - i=s / z by omega,← hg]
  rw [getElem!_pos _ _ (by simp;exact hs)]
  simp
 ·rw [if_neg hc,if_neg (fun hh=>hc ⟨e1.1 hh.1,e2.1 hh.2⟩)]
theorem SWK.over {w W:World} {blk off:Nat} {dk:Array Nat} (h:SWK enc z w blk off dk W)(hk:∀ x,(enc x).length=z)(hblk:blk < w.heap.size)(i:Nat)(d2:Array Nat)(hi:i+d2.size≤dk.size) :
  SWK enc z w blk off (Abs.over dk i d2) (W.setCells blk (off+i*z) (flatK enc z d2).toList):=by
 obtain⟨n,os,rfl⟩:=h
 refine⟨n,os,?_⟩
 unfold sortWorldK
 rw [setCells_grow os blk _ _ _ (by rw [size_putRowK];exact hblk)]
 congr 1
 unfold putRowK
 rw [setCells_putRow _ _ _ _ _ _ (by simp only [Array.length_toList,size_flatK,← Nat.add_mul];exact Nat.mul_le_mul_right _ hi),setMany_over hk dk i d2 hi]
theorem SWK.set1 {w W:World} {blk off:Nat} {dk:Array Nat} (h:SWK enc z w blk off dk W)(hk:∀ x,(enc x).length=z)(hblk:blk < w.heap.size)(i y:Nat)(hi:i < dk.size) :
  SWK enc z w blk off (dk.setIfInBounds i y) (W.setCells blk (off+i*z) (enc y)):=by
 have:=SWK.over h hk hblk i #[y] (by simp;omega)
 rwa [over_one _ _ _ hi,flat_one hk] at this
theorem zeroCells_flat (hk:∀ x,(enc x).length=z)(y n:Nat):(Builtin.zeroCells (enc y).toArray n)=flatK enc z (Array.replicate n y):=by
 unfold Builtin.zeroCells flatK
 simp only [List.size_toArray,hk,Array.size_replicate]
 refine Array.map_congr_left fun t ht=>?_
 have ht:t < n*z:=by simpa using ht
 have k0:0 < z:=by
            rcases Nat.eq_zero_or_pos z with h | h;· subst h;simp at ht
            ·exact h
 have:t / z < n:=(Nat.div_lt_iff_lt_mul k0).2 ht
 rw [getElem!_pos (Array.replicate n y) _ (by simpa using this)]
 simp
theorem flat_cell (hk:∀ x,(enc x).length=z)(h1:∀ x,∀ v∈enc x,v.oneCell'=true)(d2:Array Nat):∀ v∈(flatK enc z d2).toList,v.oneCell'=true:=fun v hv=>by
 obtain⟨t,ht,rfl⟩:=Array.getElem_of_mem (Array.mem_toList_iff.1 hv)
 have ht':t < d2.size*z:=by simpa using ht
 have k0:0 < z:=by
            rcases Nat.eq_zero_or_pos z with h | h;· subst h;simp at ht'
            ·exact h
 have h2:=get_flatK enc z d2 t ht'
 rw [getElem!_pos (flatK enc z d2) t ht,getElem!_pos (enc _) (t % z) (by rw [hk];exact Nat.mod_lt _ k0)] at h2
 rw [h2]
 exact h1 _ _ (List.getElem_mem _)
theorem run_clearK {P:Program} {W:World} {ts te ty:TypeId} {blk off n c:Nat} {dk:Array Nat} (tS:P.underlying ts=some (TypeDesc.slice te))(zr:Nat)(vE:∀ w,(zeroValue te).run P w=.ok (.agg (enc zr).toArray) w)
  (hk:∀ x,(enc x).length=z) (h1:∀ x,∀ v∈enc x,v.oneCell'=true) (hH:HoldsK enc z W blk off dk) (i:Nat) (hn:0 < n) (hi:i+n=dk.size) :
  (Builtin.clear_ #[ts] ty #[.slice (some ⟨blk,off+i*z,none⟩) n c]).run P W=.ok (.tuple #[]) (W.setCells blk (off+i*z) (flatK enc z (Array.replicate n zr)).toList):=by
 have hst:=stores_of_holds P hH (i*z) (flatK enc z (Array.replicate n zr)).toList (by simp only [Array.length_toList,size_flatK,Array.size_replicate,← Nat.add_mul,hi];exact Nat.le_refl _) (flat_cell hk h1 _)
 obtain⟨m,rfl⟩:∃ m,n=m+1:=⟨n - 1,by omega⟩
 have hz:=zeroCells_flat hk zr (m+1)
 simp [Builtin.clear_,run_underlying tS,vE,Value.cells,hz,hst]
end
section
variable {P:Program}
def EqLays (P:Program)(f:FuncId)(enc:Nat→List Value)(z:Nat)(e:Nat→Nat→Bool)(blk off size:Nat)(w:World):Prop :=
 ∀ (m:Nat) (os:Array Obj) (dk:Array Nat),dk.size=size→∀ x y,Calls P f #[.agg (enc x).toArray,.agg (enc y).toArray] (sortWorldK enc z w blk off m dk os) fun ev w'=>ev=.returned (.bool (e x y))∧∃ q os',w'=grow ((sortWorldK enc z w blk off m dk os).drewN q) os'
theorem EqLays.at {f:FuncId} {enc:Nat→List Value} {z:Nat} {e:Nat→Nat→Bool} {blk off size:Nat} {w wr:World} {dk:Array Nat} (h:EqLays P f enc z e blk off size w)(hw:SWK enc z w blk off dk wr)(hs:dk.size=size)(x y n:Nat)(os:Array Obj) :
  Calls P f #[.agg (enc x).toArray,.agg (enc y).toArray] (grow (wr.drewN n) os) fun ev w'=>ev=.returned (.bool (e x y))∧∃ q os',w'=grow ((grow (wr.drewN n) os).drewN q) os':=by
 obtain⟨m0,os0,h0⟩:=hw.grown n os
 rw [h0]
 exact h m0 os0 dk hs x y
def CPost (enc:Nat→List Value)(z:Nat)(e:Nat→Nat→Bool)(blk off cap:Nat)(d:Array Nat)(w:World)(ev:Ending)(w':World):Prop :=
 ev=.returned (.slice (some ⟨blk,off,none⟩) (compR e d d.size).length cap)∧∃ dk,dk.size=d.size∧(∀ j,j < (compR e d d.size).length→(compR e d d.size)[j]? = some dk[j]!)∧SWK enc z w blk off dk w'
theorem CPost.all {enc:Nat→List Value} {z:Nat} {e:Nat→Nat→Bool} {blk off cap:Nat} {d:Array Nat} {w w':World} (h:∀ j,j < d.size→keepR e d j=true)(hw:SWK enc z w blk off d w'):CPost enc z e blk off cap d w (.returned (.slice (some ⟨blk,off,none⟩) d.size cap)) w':=by
 have e1:=compR_all h
 have e2:(compR e d d.size).length=d.size:=by rw [e1];simp
 refine⟨by rw [e2],d,rfl,fun j hj=>?_,hw⟩
 rw [e2] at hj
 rw [e1];simp [hj]
set_option maxHeartbeats 4000000 in
theorem compact_walk (mixed:P.follows .mixedOrders=true)(fF:P.funcs[67]? = some f67)
  (t0:P.underlying 0=some (TypeDesc.tuple #[])) (a0:∀ w,(isAgg 0).run P w=.ok false w) (z0:∀ w,(Go.sizeOf 0).run P w=.ok 1 w) (v0:∀ w,(zeroValue 0).run P w=.ok (Value.tuple #[]) w)
  (t3:P.underlying 3=some (TypeDesc.int IntKind.i64)) (a3:∀ w,(isAgg 3).run P w=.ok false w) (z3:∀ w,(Go.sizeOf 3).run P w=.ok 1 w) (v3:∀ w,(zeroValue 3).run P w=.ok (Value.int IntKind.i64 0) w)
  (t4:P.underlying 4=some (TypeDesc.bool)) (a4:∀ w,(isAgg 4).run P w=.ok false w) (z4:∀ w,(Go.sizeOf 4).run P w=.ok 1 w) (v4:∀ w,(zeroValue 4).run P w=.ok (Value.bool false) w)
  (tS:P.underlying 34=some (TypeDesc.slice 31)) (aS:∀ w,(isAgg 34).run P w=.ok false w) (zS:∀ w,(Go.sizeOf 34).run P w=.ok 1 w) (vS:∀ w,(zeroValue 34).run P w=.ok (Value.slice none 0 0) w)
  (z:Nat) (aE:∀ w,(isAgg 31).run P w=.ok true w) (zE:∀ w,(Go.sizeOf 31).run P w=.ok z w) (g:FuncId) (eg:∀ args w,(callFunc g args).run P w=.ok (.enter g args) w)
  (enc:Nat→List Value) (zr:Nat) (vE:∀ w,(zeroValue 31).run P w=.ok (.agg (enc zr).toArray) w) (hk:∀ x,(enc x).length=z) (h1:∀ x,∀ v∈enc x,v.oneCell'=true) (e:Nat→Nat→Bool) (blk off cap:Nat) (d:Array Nat) (w:World)
  (hE:EqLays P g enc z e blk off d.size w) (hH:HoldsK enc z w blk off d) (hblk:blk < w.heap.size) (hsz:d.size≤sm) (hcap:d.size≤cap) :
  Calls P 67 #[.slice (some ⟨blk,off,none⟩) d.size cap,.func (.func g) #[] #[]] w (CPost enc z e blk off cap d w):=by
 have VE:Aside (∀ w,(zeroValue 31).run P w=.ok (.agg (enc zr).toArray) w):=vE
 clear vE
 have HE:Aside (EqLays P g enc z e blk off d.size w):=hE
 have HR:Aside (RowK enc z w blk off d):=⟨hk,h1,hH,hblk⟩
 clear hE hk h1 hH
 unfold sm at hsz
 by_cases h2:d.size < 2
 ·go_enter fF,ntmps67
  go_wp2
  go_ret
  exact CPost.all (fun j hj=>keepR_one e d j (by omega)) (SWK.start HR.out.hH)
 ·go_enter fF,ntmps67
  go_wp2
  go_loopg [5] d.size (fun g s5 wr=>∃ k:Nat,1≤k∧k≤d.size∧d.size - k≤g∧s5=.int .i64 k∧Aside (SWK enc z w blk off d wr)∧Aside (∀ j,j < k→keepR e d j=true))
  case atStart=>exact⟨1,Nat.le_refl _,by omega,by omega,rfl,SWK.start HR.out.hH,keepR_one e d⟩
  case round =>
   obtain⟨k,hk1,hk,hg,rfl,HW,HA⟩:=hrel
   by_cases hlt:k < d.size
   ·obtain⟨kp,rfl⟩:∃ kp,k=kp+1:=⟨k - 1,by omega⟩
    have hwp:IntKind.i64.wrap (kp:Int)=(kp:Int):=by rw [IntKind.wrap_i64];omega
    have jz:(kp:Int)+1 < (d.size:Int):=by omega
    have jz1:(kp:Int) < (d.size:Int):=by omega
    have p0:(0:Int)≤(kp:Int)+1:=by omega
    have e0:((kp:Int)+1).toNat=kp+1:=by omega
    have hld:=fun (i:Nat) (hi:i < d.size) (n:Nat) (os:Array Obj)=>SWK.ld HW.out HR.out rfl P i hi n os
    have l1:=hld (kp+1) hlt
    have l0:=hld kp (by omega)
    have hcl:=fun n os=>HE.out.at HW.out rfl d[kp+1]! d[kp]! n os
    clear hld
    obtain⟨x1,hx1⟩:∃ x,x=enc d[kp+1]!:=⟨_,rfl⟩
    obtain⟨x0,hx0⟩:∃ x,x=enc d[kp]!:=⟨_,rfl⟩
    rw [← hx1] at l1 hcl
    rw [← hx0] at l0 hcl
    have HX:Aside (x1=enc d[kp+1]!∧x0=enc d[kp]!):=⟨hx1,hx0⟩
    clear hx1 hx0
    cases hee:e d[kp+1]! d[kp]! with
    | true =>
     rw [hee] at hcl
     have HEE:Aside (e d[kp+1]! d[kp]! = true):=hee
     clear hee
     go_wp2_with fail
     go_quiet_grown (first | (go_at_fn g;refine Calls.grown_of (hcl _ _)))
     go_wp2
     have HS2:Aside (SWK enc z w blk off d (grow (wr.drewN nq) osq)):=HW.out.grown nq osq
     have HI0:Aside (CInv e d (kp+1+1) (kp+1) d):=CInv.start HA.out (by simp [keepR,HEE.out])
     clear l1 l0 hcl HX HEE HA HW
     generalize grow (wr.drewN nq) osq=wz at HS2 ⊢
     obtain⟨n2,hn2⟩:∃ n2,d.size - (kp+1)=n2:=⟨_,rfl⟩
     obtain⟨c2,hc2⟩:∃ c2,cap - (kp+1)=c2:=⟨_,rfl⟩
     obtain⟨o2,ho2⟩:∃ o2,off+(kp+1)*z=o2:=⟨_,rfl⟩
     rw [hn2,hc2,ho2]
     have N2:Aside (d.size - (kp+1)=n2∧cap - (kp+1)=c2∧off+(kp+1)*z=o2):=⟨hn2,hc2,ho2⟩
     have hn2':kp+1+n2=d.size:=by omega
     clear hn2 hc2 ho2
     go_loopg [5,7] d.size (fun g2 s5 s7 wr2=>∃ (kk k2:Nat) (dk:Array Nat),s5=.int .i64 kk∧s7=.int .i64 k2∧1≤k2∧k2≤n2∧n2 - k2≤g2∧Aside (SWK enc z w blk off dk wr2)∧Aside (CInv e d (kp+1+k2) kk dk))
     case atStart=>exact⟨kp+1,1,d,by go_num,by go_num,Nat.le_refl _,by omega,by omega,HS2,HI0⟩
     case round =>
      obtain⟨kk,k2,dk,rfl,rfl,hk21,hk2n,hg2,HW2,HI⟩:=hrel
      by_cases hlt2:k2 < n2
      ·obtain⟨k2p,rfl⟩:∃ k2p,k2=k2p+1:=⟨k2 - 1,by omega⟩
       have hwp2:IntKind.i64.wrap (k2p:Int)=(k2p:Int):=by rw [IntKind.wrap_i64];omega
       have iz:(k2p:Int)+1 < (n2:Int):=by omega
       have iz1:(k2p:Int) < (n2:Int):=by omega
       have i0:(0:Int)≤(k2p:Int)+1:=by omega
       have ie:((k2p:Int)+1).toNat=k2p+1:=by omega
       have hkk:kk < kp+1+(k2p+1):=HI.out.lt
       have hds:=HI.out.size
       have hm:kp+1+(k2p+1) < d.size:=by omega
       have o1:o2+(k2p+1)*z=off+(kp+1+(k2p+1))*z:=by rw [← N2.out.2.2,Nat.add_mul (kp+1)];omega
       have o0:o2+k2p*z=off+(kp+1+k2p)*z:=by rw [← N2.out.2.2,Nat.add_mul (kp+1)];omega
       have hld:=fun (i:Nat) (hi:i < dk.size) (n:Nat) (os:Array Obj)=>SWK.ld HW2.out HR.out hds P i hi n os
       have l1:=hld (kp+1+(k2p+1)) (by omega)
       have l0:=hld (kp+1+k2p) (by omega)
       rw [HI.out.high (kp+1+(k2p+1)) (by omega),← o1] at l1
       rw [HI.out.high (kp+1+k2p) (by omega),← o0] at l0
       have hcl:=fun n os=>HE.out.at HW2.out hds d[kp+1+(k2p+1)]! d[kp+1+k2p]! n os
       have hlen:(enc d[kp+1+(k2p+1)]!).length=z:=HR.out.hk _
       clear hld o1 o0
       obtain⟨x1,hx1⟩:∃ x,x=enc d[kp+1+(k2p+1)]!:=⟨_,rfl⟩
       obtain⟨x0,hx0⟩:∃ x,x=enc d[kp+1+k2p]!:=⟨_,rfl⟩
       rw [← hx1] at l1 hcl hlen
       rw [← hx0] at l0 hcl
       have HX:Aside (x1=enc d[kp+1+(k2p+1)]!):=hx1
       clear hx1 hx0
       cases hee:e d[kp+1+(k2p+1)]! d[kp+1+k2p]! with
       | true =>
        rw [hee] at hcl
        have HEE:Aside (keepR e d (kp+1+(k2p+1))=false):=by
         have:kp+1+(k2p+1) - 1=kp+1+k2p:=by omega
         simp only [Aside,keepR,this,hee];simp
        clear hee
        go_wp2_with fail
        go_quiet_grown (first | (go_at_fn g;refine Calls.grown_of (hcl _ _)))
        go_wp2
        go_roundg (n2 - (k2p+1+1))
        case measure=>omega
        case rel=>exact⟨kk,k2p+1+1,dk,rfl,by go_num,by omega,by omega,Nat.le_refl _,HW2.out.grown _ _,HI.out.skip HEE.out⟩
       | false =>
        rw [hee] at hcl
        have HEE:Aside (keepR e d (kp+1+(k2p+1))=true):=by
         have:kp+1+(k2p+1) - 1=kp+1+k2p:=by omega
         simp only [Aside,keepR,this,hee];simp
        clear hee
        go_wp2_with fail
        go_quiet_grown (first | (go_at_fn g;refine Calls.grown_of (hcl _ _)))
        have hq1:=l1 nq osq
        have HWq:Aside (SWK enc z w blk off dk (grow (wr.drewN nq) osq)):=HW2.out.grown nq osq
        clear l1 l0 hcl
        generalize grow (wr.drewN nq) osq=wq at hq1 HWq ⊢
        have kz:(kk:Int) < (d.size:Int):=by omega
        have hst:Sem.run P (storeCells ⟨blk,off+kk*z,none⟩ x1 0) wq=.ok () (wq.setCells blk (off+kk*z) x1):=by
         rw [HX.out]
         exact stores_of_holds P (HWq.out.holds HR.out.hblk HR.out.hH hds) (kk*z) _ (by rw [HR.out.hk,size_flatK];have:=Nat.mul_le_mul_right z (show kk+1≤dk.size by omega);rwa [Nat.add_mul,Nat.one_mul] at this) (HR.out.h1 _)
        go_wp2
        go_roundg (n2 - (k2p+1+1))
        case measure=>omega
        case rel =>
         refine⟨kk+1,k2p+1+1,dk.setIfInBounds kk d[kp+1+(k2p+1)]!,by go_num,by go_num,by omega,by omega,Nat.le_refl _,?_,HI.out.keep hm HEE.out⟩
         rw [HX.out]
         exact SWK.set1 HWq.out HR.out.hk HR.out.hblk kk _ (by omega)
      ·have hend:k2=n2:=by omega
       subst hend
       have hds:=HI.out.size
       have hkk:kk < kp+1+k2:=HI.out.lt
       have hcl:∀ ty,(Builtin.clear_ #[34] ty #[.slice (some ⟨blk,off+kk*z,none⟩) (d.size - kk) (cap - kk)]).run P wr=.ok (.tuple #[]) (wr.setCells blk (off+kk*z) (flatK enc z (Array.replicate (d.size - kk) zr)).toList) :=
        fun ty=>run_clearK tS zr VE.out HR.out.hk HR.out.h1 (HW2.out.holds HR.out.hblk HR.out.hH hds) kk (by omega) (by omega)
       go_wp2
       go_ret
       have hI:=HI.out
       rw [hn2'] at hI
       refine⟨by rw [hI.len];rfl,over dk kk (Array.replicate (d.size - kk) zr),by rw [size_over,hds],fun j hj=>?_,SWK.over HW2.out HR.out.hk HR.out.hblk kk _ (by simp;omega)⟩
       rw [hI.len] at hj
       rw [hI.low j hj,get_over _ _ _ _ (by omega),if_neg (by omega)]
    | false =>
     rw [hee] at hcl
     have HEE:Aside (e d[kp+1]! d[kp]! = false):=hee
     clear hee
     go_wp2_with fail
     go_quiet_grown (first | (go_at_fn g;refine Calls.grown_of (hcl _ _)))
     go_wp2
     go_roundg (d.size - (kp+1+1))
     case measure=>omega
     case rel =>
      refine⟨kp+1+1,by omega,by omega,Nat.le_refl _,by go_num,HW.out.grown _ _,fun j hj=>?_⟩
      by_cases e1:j=kp+1
      ·subst e1;simp [keepR,HEE.out]
      ·exact HA.out j (by omega)
   ·have:k=d.size:=by omega
    subst this
    go_wp2
    go_ret
    exact CPost.all HA.out HW.out
end
theorem compact_nil (g:FuncId)(w:World):Calls prog 67 #[.slice none 0 0,.func (.func g) #[] #[]] w fun ev w'=>ev=.returned (.slice none 0 0)∧w'=w:=by
 go_enter func67,ntmps67
 go_wp2
 go_ret
 exact⟨rfl,rfl⟩
def compC (l:List CallT):List CallT:=(compR (fun x y=>decide (cmpC (ccN l x) (ccN l y)=0)) (Array.range l.length) l.length).map (ccN l)
theorem BoxOK.take {S:Nat→Prop} {w:World} {β:Names} {i:BI} {sz:Nat} {rs:List (List D)} (h:BoxOK S w β i (.rows sz rs))(n:Nat)(hn:n≤rs.length):BoxOK S w β { i with len:=n } (.rows sz (rs.take n)):=by
 obtain⟨q1,q2,q3,q4,q5,q6,q7⟩:=h
 refine⟨q1,by simp only [List.length_take];omega,by simp only;omega,by simp only [List.length_take];omega,fun row hr=>q5 row (List.mem_of_mem_take hr),fun row hr=>q6 row (List.mem_of_mem_take hr),?_⟩
 cases hb:i.base with
 | none=>rw [hb] at q7;exact q7
 | some b =>
  rw [hb] at q7
  obtain⟨ty,vs,h1,h2,h3⟩:=q7
  exact⟨ty,vs,h1,h2,fun r j row d v hr hd hv=>h3 r j row d v (by rw [List.getElem?_take] at hr;split at hr;exact hr;cases hr) hd hv⟩
theorem opP_compactC {sl:SL} {bx:Boxes} {x:Operand} {tys:List TypeId} {o:Oper} (k:Nat)(l:List CallT)(ho:o.op=.call ⟨.value (.func 67),[x,.func 68].toArray,tys.toArray⟩)(hx:opnd sl x=.acc k)(hb:bget bx k=some (.rows 5 (caR l)))(hlen:l.length≤sm)(hSm:∀ c,c∈l→c.Sm) :
  OpP prog o (opnd sl) bx fun r bx'=>r=.d (.slice (caR (compC l)))∧bx'=berase k bx:=by
 intro C S w β a hi ha
 have hE:Enters prog 67:=(Enters.of func67 rfl (by decide))
 have hx1:=ha x (mC ho)
 rw [hx] at hx1
 have hbm:=mem_of_bget hb
 obtain⟨q1,q2,q3,q4,q5,q6,q7⟩:=hi.box k _ hbm
 generalize hv:a.eval x=v at hx1
 cases hx1
 have hfv:a.eval (.func 67)=.func (.func 67) #[] #[]:=rfl
 refine Or.inl ?_
 unfold Oper.wp
 rw [run_enter hE ho hfv,Oper.upon_enter]
 have hlen2:l.length=(β k).len:=by rw [← q2];simp [caR]
 have hcbs:([x,.func 68].toArray.map a.eval)++(#[]:Array Value) = #[.slice ((β k).base.map fun b=>⟨b,(β k).off*(β k).sz,none⟩) (β k).len (β k).cap,.func (.func 68) #[] #[]]:=by
  apply Array.ext'
  rw [Array.toList_append,Array.toList_map]
  show [a.eval x,Value.func (.func 68) #[] #[]]++[]=_
  rw [hv];rfl
 rw [hcbs]
 clear hcbs
 generalize hbase:(β k).base=ob at q7
 cases ob with
 | none =>
  simp only at q7
  have hl0:l=[]:=List.eq_nil_of_length_eq_zero (by omega)
  subst hl0
  rw [show (β k).len=0 by omega,q7]
  refine (compact_nil _ w).mono ?_
  rintro e w' ⟨rfl,rfl⟩
  refine⟨_,_,_,S,β,⟨rfl,rfl⟩,rfl,hi.sub fun j c hj=>(mem_berase.1 hj).2,SExt.refl S _,.d _ _ (.slice0 none 0 fun _=>rfl),fun _ _=>rfl⟩
 | some b =>
  obtain⟨enc,R⟩:=rowsW hi hbm hbase
  have hsr:(Array.range l.length).size=l.length:=Array.size_range
  have hcmp:EqLays prog 68 enc 5 (fun x y=>decide (cmpC (ccN l x) (ccN l y)=0)) b ((β k).off*5) (Array.range l.length).size w:=fun m os dk _ x y =>
   CallOK.grownB (β:=β) (sy:=C.G.sy) (ra:=C.G.ra) (ok_Methods1 (ccN l x) (ccN_Sm hSm x) (ccN l y)) (vs:=[.agg (enc x).toArray,.agg (enc y).toArray]) ⟨rfl,fun j c v hc hv=>by
    match j,hc,hv with
    | 0,hc,hv=>cases hc;cases hv;exact R.row m os dk x
    | 1,hc,hv=>cases hc;cases hv;exact R.row m os dk y
    | j+2,hc,hv=>simp at hv⟩ (R.tab m os dk)
  rw [q1,← hlen2]
  have hw:=compact_walk (P:=prog) (by kernel_rfl) func67 underlying0 isAgg0 sizeOf0 zeroValue0 underlying3 isAgg3 sizeOf3 zeroValue3
   underlying4 isAgg4 sizeOf4 zeroValue4 underlying34 isAgg34 sizeOf34 zeroValue34
   5 isAgg31 sizeOf31 68 (enters_of func68 (by kernel_rfl) rfl) enc l.length (fun w=>by rw [R.zero];exact zeroValue31 w) R.len R.one _ b ((β k).off*5) (β k).cap (Array.range l.length) w hcmp R.holds R.lt (by rw [hsr];exact hlen) (by rw [hsr];omega)
  rw [hsr] at hw
  refine hw.mono ?_
  rintro e w' ⟨rfl,dk,hds,hlow,m,os,rfl⟩
  rw [hsr] at hds hlow
  obtain⟨g1,g2⟩:=R.inv m os dk hds
  have hbox:=g1.box k _ (List.mem_cons_self ..)
  obtain⟨p1,p2,_⟩:=g1.publish (k:=k) (sz:=5) (List.mem_cons_self ..)
  have hle:(compR (fun x y=>decide (cmpC (ccN l x) (ccN l y)=0)) (Array.range l.length) l.length).length≤l.length:=by
   unfold compR;rw [List.length_map]
   exact Nat.le_trans (List.length_filter_le _ _) (by simp)
  have hrows:(caR (dk.toList.map (ccN l))).take (compR (fun x y=>decide (cmpC (ccN l x) (ccN l y)=0)) (Array.range l.length) l.length).length=caR (compC l):=by
   unfold compC
   generalize compR (fun x y=>decide (cmpC (ccN l x) (ccN l y)=0)) (Array.range l.length) l.length=cr at hlow hle
   simp only [caR,← List.map_take,List.map_map]
   have:dk.toList.take cr.length=cr:=by
    refine List.ext_getElem? fun j=>?_
    rw [List.getElem?_take]
    split
    ·rename_i hj
     rw [hlow j hj,Array.getElem?_toList,Array.getElem?_eq_getElem (by omega),getElem!_pos dk j (by omega)]
    ·rename_i hj
     rw [List.getElem?_eq_none (by omega)]
   rw [this]
  have hd:=((hbox.take (compR (fun x y=>decide (cmpC (ccN l x) (ccN l y)=0)) (Array.range l.length) l.length).length (by simp only [caR,List.length_map,Array.length_toList];omega)).ext p2 (fun _ _=>rfl) (fun _ _=>rfl)).rows_slice fun b' hb'=>.inr hb'
  rw [hrows] at hd
  refine⟨_,_,_,_,β,⟨rfl,rfl⟩,rfl,p1.sub fun j c hj=>?_,g2.trans p2,.d _ _ ?_,fun _ _=>rfl⟩
  ·obtain⟨h1,h2⟩:=mem_berase.1 hj
   exact mem_berase.2 ⟨h1,List.mem_cons_of_mem _ hj⟩
  ·rw [hsr]
   simpa only [sval,hbase,q1,Option.map_some] using hd
end Go.Abs
