/- slices.SortFunc on a slice of the call's own: sorted by name -/
import Derived.Test.YtenheogknlmohaaGreatDoorYS19
import Derived.Test.YtenheogknlmohaaGreatDoorYS18
namespace Go.Abs
set_option linter.unusedSimpArgs false
set_option linter.unusedVariables false
open Go Go.Proofs Go.Sort
set_option maxRecDepth 100000
set_option maxHeartbeats 1000000
theorem cmpS_anti:∀ a b:Str,cmpS b a = - cmpS a b
 | [],[]=>rfl
 | [],_::_=>rfl
 | _::_,[]=>rfl
 | x::xs,y::ys=>by
  have ih:=cmpS_anti xs ys
  simp only [cmpS,UInt8.lt_iff_toNat_lt]
  rcases Nat.lt_trichotomy x.toNat y.toNat with h | h | h
  ·have:¬ y.toNat < x.toNat:=by omega
   simp [h,this]
  ·simp [h,ih]
  ·have:¬ x.toNat < y.toNat:=by omega
   simp [h,this]
theorem cmpS_trans:∀ a b c:Str,cmpS a b < 0→cmpS b c < 0→cmpS a c < 0
 | [],[],_,h,_=>by simp [cmpS] at h
 | [],_::_,[],_,h=>by simp [cmpS] at h
 | [],_::_,_::_,_,_=>by simp [cmpS]
 | _::_,[],_,h,_=>by simp [cmpS] at h
 | _::_,_::_,[],_,h=>by simp [cmpS] at h
 | x::xs,y::ys,z::zs,h1,h2=>by
  have ih:=cmpS_trans xs ys zs
  simp only [cmpS,UInt8.lt_iff_toNat_lt] at *
  by_cases a1:x.toNat < y.toNat
  ·by_cases b1:y.toNat < z.toNat
   ·rw [if_pos (by omega)];decide
   ·rw [if_neg b1] at h2
    by_cases b2:z.toNat < y.toNat
    ·rw [if_pos b2] at h2;omega
    ·rw [if_pos (by omega)];decide
  ·rw [if_neg a1] at h1
   by_cases a2:y.toNat < x.toNat
   ·rw [if_pos a2] at h1;omega
   ·rw [if_neg a2] at h1
    by_cases b1:y.toNat < z.toNat
    ·rw [if_pos (by omega)];decide
    ·rw [if_neg b1] at h2
     by_cases b2:z.toNat < y.toNat
     ·rw [if_pos b2] at h2;omega
     ·rw [if_neg b2] at h2
      rw [if_neg (by omega),if_neg (by omega)]
      exact ih h1 h2
theorem cmpS_le_trans (a b c:Str)(h1:cmpS a b≤0)(h2:cmpS b c≤0):cmpS a c≤0:=by
 by_cases e1:cmpS a b=0
 ·rw [cmpS_zero] at e1;rw [e1];exact h2
 ·by_cases e2:cmpS b c=0
  ·rw [cmpS_zero] at e2;rw [← e2];exact h1
  ·have:=cmpS_trans a b c (by omega) (by omega);omega
theorem cmpS_swo {α:Type} (nm:α→Str):SWO (ltOf fun x y:α=>cmpS (nm x) (nm y)) where
 irrefl x:=by simp [ltOf,cmpS_refl]
 trans x y z h1 h2:=by
  simp only [ltOf,decide_eq_true_eq] at *
  exact cmpS_trans _ _ _ h1 h2
 ntrans x y z h1 h2:=by
  simp only [ltOf,decide_eq_false_iff_not] at *
  have a1:=cmpS_anti (nm x) (nm y)
  have a2:=cmpS_anti (nm y) (nm z)
  have a3:=cmpS_anti (nm x) (nm z)
  have:=cmpS_le_trans (nm z) (nm y) (nm x) (by omega) (by omega)
  omega
def sortSi (l:List Sig):List Sig:=l.mergeSort fun a b=>decide (cmpS a.name b.name≤0)
theorem sortSi_perm (l:List Sig):(sortSi l).Perm l:=List.mergeSort_perm _ _
theorem sortSi_sorted (l:List Sig):(sortSi l).Pairwise fun a b=>cmpS a.name b.name≤0:=by
 refine (List.pairwise_mergeSort (le:=fun a b:Sig=>decide (cmpS a.name b.name≤0)) ?_ ?_ l).imp (by simp)
 ·intro a b c h1 h2
  simp only [decide_eq_true_eq] at *
  exact cmpS_le_trans _ _ _ h1 h2
 ·intro a b
  have:=cmpS_anti a.name b.name
  simp only [Bool.or_eq_true,decide_eq_true_eq]
  omega
theorem sortSi_unique {l l':List Sig} (hn:(l.map (·.name)).Nodup)(hp:l'.Perm l)(hs:l'.Pairwise fun a b=>cmpS a.name b.name≤0):l'=sortSi l:=by
 refine List.Perm.eq_of_pairwise (le:=fun a b:Sig=>cmpS a.name b.name≤0) ?_ hs (sortSi_sorted l) (hp.trans (sortSi_perm l).symm)
 intro a b ha hb h1 h2
 have:=cmpS_anti a.name b.name
 have he:a.name=b.name:=cmpS_zero.1 (by omega)
 have ha':a∈l:=hp.mem_iff.1 ha
 have hb':b∈l:=(sortSi_perm l).mem_iff.1 hb
 obtain⟨i,hi⟩:=List.getElem?_of_mem ha'
 obtain⟨j,hj⟩:=List.getElem?_of_mem hb'
 have h1:(l.map (·.name))[i]? = some a.name:=by simp [hi]
 have h2:(l.map (·.name))[j]? = some a.name:=by simp [hj,he]
 have hlt:i < (l.map (·.name)).length:=(List.getElem?_eq_some_iff.1 h1).1
 have:=(List.getElem?_inj hlt hn).1 (h1.trans h2.symm)
 subst this
 rw [hi] at hj
 simpa using hj
theorem opB_sort {sl:SL} {bx:Boxes} {dst:Option Nat} {x:Operand} {tys:List TypeId} (k:Nat)(l:List Sig)(hx:opnd sl x=.acc k)(hb:bget bx k=some (.rows 7 (siR l)))(hn:(l.map (·.name)).Nodup)(hlen:l.length≤sm) :
  OpB Tryz.prog sl bx dst (.call ⟨.value (.func 123),[x,.func 124].toArray,tys.toArray⟩) (.tuple []) ((k,.rows 7 (siR (sortSi l)))::berase k bx) []:=by
 intro o ho _ C S w β a hi ha
 have hE:Enters Tryz.prog 123:=(Enters.of Tryz.func123 rfl (by decide))
 have hx1:=ha x (mo ho (by simp [Op.operands,Call.operands]))
 rw [hx] at hx1
 have hbm:=mem_of_bget hb
 obtain⟨q1,q2,q3,q4,q5,q6,q7⟩:=hi.box k _ hbm
 generalize hv:a.eval x=v at hx1
 cases hx1
 have hargsEq:(#[x,.func 124].map a.eval)++(#[]:Array Value) = #[.slice ((β k).base.map fun b=>⟨b,(β k).off*(β k).sz,none⟩) (β k).len (β k).cap,.func (.func 124) #[] #[]]:=by
  apply Array.ext'
  rw [Array.toList_append,Array.toList_map]
  show [a.eval x,Value.func (.func 124) #[] #[]]++[]=_
  rw [hv];rfl
 have hfv:a.eval (.func 123)=.func (.func 123) #[] #[]:=rfl
 refine Or.inl ?_
 unfold Oper.wp
 rw [run_enter hE ho hfv,Oper.upon_enter]
 have hlen2:l.length=(β k).len:=by rw [← q2];simp [siR]
 have hcbs:([x,.func 124].toArray.map a.eval)++(#[]:Array Value) = #[.slice ((β k).base.map fun b=>⟨b,(β k).off*(β k).sz,none⟩) (β k).len (β k).cap,.func (.func 124) #[] #[]]:=hargsEq
 rw [hcbs]
 clear hcbs hargsEq
 generalize hbase:(β k).base=ob at q7
 cases ob with
 | none =>
  simp only at q7
  have hl0:l=[]:=List.eq_nil_of_length_eq_zero (by omega)
  subst hl0
  rw [show (β k).len=0 by omega]
  refine (AnyF.slices_SortFunc_none Tryz.sortS _ _ _ w).mono ?_
  rintro e w' ⟨rfl,rfl⟩
  refine⟨_,S,β,rfl,hi.sub fun j c hj=>?_,SExt.refl S _,.tuple [] [] rfl (by simp),fun _ _=>rfl⟩
  rcases List.mem_cons.1 hj with h | h
  ·rw [h,show sortSi []=[] by simp [sortSi]];exact hbm
  ·exact (mem_berase.1 h).2
 | some b =>
  simp only at q7
  obtain⟨ty,vs,hh,hcap,hrep⟩:=q7
  obtain⟨n,hn0⟩:∃ n,n=l.length:=⟨_,rfl⟩
  let nm:Nat→Str:=fun i=>((l[i]?).getD default).name
  have hin:∀ i,i < n→((β k).off+i)*7+7≤vs.length:=fun i h=>by
   have h1:((β k).off+i+1)*7≤((β k).off+(β k).cap)*7:=Nat.mul_le_mul_right _ (by omega)
   omega
  let enc:Nat→List Value:=fun i=>if i < n then (vs.drop (((β k).off+i)*7)).take 7 else [sv (nm i),.int .i64 0,.int .i64 0,.int .i64 0,.int .i64 0,.int .i64 0,.int .i64 0]
  have encLen:∀ i,(enc i).length=7:=fun i=>by
   simp only [enc]
   split
   ·rename_i h
    have:=hin i h
    rw [List.length_take,List.length_drop];omega
   ·rfl
  have encGet:∀ i j,i < n→j < 7→(enc i)[j]? = vs[((β k).off+i)*7+j]?:=fun i j h hj=>by
   simp only [enc,if_pos h]
   rw [List.getElem?_take_of_lt hj,List.getElem?_drop]
  have rowAt:∀ i,i < n→∃ s,l[i]? = some s∧(siR l)[i]? = some (siC s):=fun i h=>⟨l[i]'(by omega),List.getElem?_eq_getElem _,siR_get (List.getElem?_eq_getElem _)⟩
  have encRep:∀ i j s v,l[i]? = some s→(enc i)[j]? = some v→∃ d,(siC s)[j]? = some d∧RepC S w d v:=fun i j s v hs he=>by
   have hi':i < n:=by have:=(List.getElem?_eq_some_iff.1 hs).1;omega
   have hj:j < 7:=by have:=(List.getElem?_eq_some_iff.1 he).1;rw [encLen] at this;exact this
   rw [encGet i j hi' hj] at he
   have hsl:j < (siC s).length:=by rw [show (siC s).length=7 from rfl];exact hj
   exact⟨_,List.getElem?_eq_getElem hsl,hrep i j (siC s) _ v (siR_get hs) (List.getElem?_eq_getElem hsl) he⟩
  have encOne:∀ i,∀ v∈enc i,v.oneCell'=true:=fun i v hv=>by
   by_cases h:i < n
   ·obtain⟨s,hs,hr⟩:=rowAt i h
    obtain⟨j,hj⟩:=List.getElem?_of_mem hv
    obtain⟨d,h1,h2⟩:=encRep i j s v hs hj
    exact h2.one (q6 _ (List.mem_of_getElem? hr) d (List.mem_of_getElem? h1))
   ·simp only [enc,if_neg h,List.mem_cons,List.not_mem_nil,or_false] at hv
    rcases hv with rfl | rfl | rfl | rfl | rfl | rfl | rfl <;> rfl
  have encHead:∀ i,∃ a1 a2 a3 a4 a5 a6,enc i=[sv (nm i),a1,a2,a3,a4,a5,a6]:=fun i=>by
   by_cases h:i < n
   ·obtain⟨s,hs,hr⟩:=rowAt i h
    have hl:=encLen i
    have h0:=encRep i 0 s
    match he:enc i,hl with
    | [v0,a1,a2,a3,a4,a5,a6],_ =>
     obtain⟨d,h1,h2⟩:=h0 v0 hs (by rw [he];rfl)
     have:d=.str s.name:=by simpa [siC] using h1.symm
     subst this
     have:v0=sv (nm i):=by
      have hv0:=(RepV.d (β:=β) _ _ h2).inv_str.1
      rw [hv0]
      simp only [nm,hs,Option.getD_some];rfl
     exact⟨a1,a2,a3,a4,a5,a6,by rw [this]⟩
   ·exact⟨.int .i64 0,.int .i64 0,.int .i64 0,.int .i64 0,.int .i64 0,.int .i64 0,by simp only [enc,if_neg h]⟩
  have hcmp:CmpLays Tryz.prog 124 #[] enc 7 (fun x y=>cmpS (nm x) (nm y)) b ((β k).off*7) (Array.range n).size w:=fun m os dk _ x y=>by
   obtain⟨a1,a2,a3,a4,a5,a6,h1⟩:=encHead x
   obtain⟨b1,b2,b3,b4,b5,b6,h2⟩:=encHead y
   have:=set1_calls (nm x) (nm y) a1 a2 a3 a4 a5 a6 b1 b2 b3 b4 b5 b6 (sortWorldK enc 7 w b ((β k).off*7) m dk os)
   rw [h1,h2]
   exact this
  have hH:HoldsK enc 7 w b ((β k).off*7) (Array.range n):=fun j hj=>by
   rw [size_flatK,Array.size_range] at hj
   have hj7:j / 7 < n:=by omega
   have hfl:(flatK enc 7 (Array.range n))[j]! = (enc (j / 7))[j % 7]!:=by
    rw [get_flatK _ _ _ _ (by rw [Array.size_range];exact hj)]
    congr 2
    rw [getElem!_pos _ _ (by rw [Array.size_range];exact hj7),Array.getElem_range]
   have hlt:=hin (j / 7) hj7
   have hpos:((β k).off+j / 7)*7+j % 7=(β k).off*7+j:=by omega
   have hlt2:(β k).off*7+j < vs.length:=by omega
   have hen:(enc (j / 7))[j % 7]! = vs[(β k).off*7+j]:=by
    have:=encGet (j / 7) (j % 7) hj7 (Nat.mod_lt _ (by decide))
    rw [hpos,List.getElem?_eq_getElem hlt2] at this
    rw [List.getElem!_eq_getElem?_getD,this];rfl
   refine⟨?_,?_⟩
   ·simp only [World.cell?,hh,Option.isSome_none,id,hfl,hen]
    simp [hlt2]
   ·simp [World.frozen?,hh]
  have hbl:b < w.heap.size:=(hi.priv k _ hbm b hbase).2.1
  have hS:=hi.priv k _ hbm b hbase
  rw [q1,← hlen2,← hn0]
  have hsort:=AnyQ.slices_SortFunc Tryz.sortS 7 Tryz.isAgg78 Tryz.sizeOf78 enc encLen encOne (fun x y=>cmpS (nm x) (nm y)) (cmpS_swo nm) 124 #[] b ((β k).off*7) (β k).cap (Array.range n) w
   (enters_of Tryz.func124 (by kernel_rfl) rfl) hcmp hH hbl (by rw [Array.size_range];unfold sm at hlen;omega)
  rw [Array.size_range] at hsort
  refine hsort.mono ?_
  rintro e w' ⟨rfl,d',m,os,hperm,hsorted,rfl⟩
  obtain⟨p1,_,p3⟩:=hperm
  rw [Array.size_range] at p1
  have p4:d'.toList.Perm (List.range n):=by
   rw [show d'.extract 0 n=d' by rw [← p1];exact Array.extract_size,show (Array.range n).extract 0 n=Array.range n by have:=Array.extract_size (xs:=Array.range n);rwa [Array.size_range] at this,Array.toList_range] at p3
   exact p3
  have p5:∀ i (h:i < d'.size),d'[i] < n:=fun i h=>List.mem_range.1 (p4.mem_iff.1 (Array.getElem_mem_toList h))
  have hl':d'.toList.map (fun i=>(l[i]?).getD default)=sortSi l:=by
   refine sortSi_unique hn ?_ ?_
   ·have h1:=p4.map fun i=>(l[i]?).getD default
    have h2:(List.range n).map (fun i=>(l[i]?).getD default)=l:=by
     refine List.ext_getElem? fun i=>?_
     rw [List.getElem?_map]
     by_cases h:i < n
     ·rw [List.getElem?_range h,Option.map_some,List.getElem?_eq_getElem (by omega),Option.getD_some]
     ·rw [List.getElem?_eq_none (by simp;omega),List.getElem?_eq_none (by omega)];rfl
    rw [h2] at h1;exact h1
   ·rw [List.pairwise_map,List.pairwise_iff_getElem]
    intro i j hi' hj' hij
    have h1:=hsorted i j (Nat.zero_le _) hij (by rw [← p1];simpa using hj')
    rw [getElem!_pos d' i (by simpa using hi'),getElem!_pos d' j (by simpa using hj')] at h1
    simp only [ltOf,decide_eq_false_iff_not] at h1
    have h2:=cmpS_anti (nm d'[i]) (nm d'[j])
    have h3:¬ cmpS (nm d'[j]) (nm d'[i]) < 0:=h1
    have h4:cmpS (nm d'[i]) (nm d'[j])≤0:=by omega
    simpa [nm] using h4
  have hps:=sortSi_perm l
  have hd'l:d'.size=(sortSi l).length:=by rw [← hl'];simp
  have hnew:BoxOK S (putRowK enc 7 (Sort.ahead w m) b ((β k).off*7) d') β (β k) (.rows 7 (siR (sortSi l))):=by
   refine⟨q1,by simp only [siR,List.length_map,hps.length_eq];exact hlen2,q3,by simp only [siR,List.length_map,hps.length_eq];unfold sm lim at *;omega,?_,?_,?_⟩
   ·intro row hr
    obtain⟨s,_,rfl⟩:=List.mem_map.1 hr;rfl
   ·intro row hr d hd
    obtain⟨s,hs,rfl⟩:=List.mem_map.1 hr
    exact q6 _ (List.mem_map.2 ⟨s,hps.mem_iff.1 hs,rfl⟩) d hd
   ·rw [hbase]
    refine⟨ty,(putCells id ((β k).off*7) (flatK enc 7 d') ⟨vs⟩).toList,?_,by simpa [putCells] using hcap,?_⟩
    ·simp [putRowK,putRow,mapBlock,Sort.ahead,Array.getElem?_modify,hh,onCells]
    ·intro r j row d v hr hd hv
     have hrl:r < (sortSi l).length:=by have:=(List.getElem?_eq_some_iff.1 hr).1;simpa [siR] using this
     have hrd:r < d'.size:=by omega
     have hrow:row=siC ((l[d'[r]]?).getD default):=by
      rw [← hl'] at hr
      simp only [siR,List.getElem?_map,Array.getElem?_toList,Array.getElem?_eq_getElem hrd,Option.map_some,Option.some.injEq] at hr
      exact hr.symm
     obtain⟨s,hs,_⟩:=rowAt _ (p5 r hrd)
     rw [hs,Option.getD_some] at hrow
     subst hrow
     have hj:j < 7:=by have:=(List.getElem?_eq_some_iff.1 hd).1;rwa [show (siC s).length=7 from rfl] at this
     have hflat:(flatK enc 7 d')[r*7+j]! = (enc d'[r])[j]!:=by
      rw [get_flatK _ _ _ _ (by omega),show (r*7+j) / 7=r by omega,show (r*7+j) % 7=j by omega,getElem!_pos d' r hrd]
     have hin':=hin r (by omega)
     have hlt:((β k).off+r)*7+j < vs.length:=by omega
     have hve:(enc d'[r])[j]? = some v:=by
      rw [Array.getElem?_toList,putCells,Array.getElem?_mapIdx] at hv
      have hc:(⟨vs⟩:Array Value)[((β k).off+r)*7+j]? = some vs[((β k).off+r)*7+j]:=by simp [hlt]
      rw [hc,Option.map_some,if_pos ⟨by omega,by rw [size_flatK];omega⟩,show ((β k).off+r)*7+j - (β k).off*7=r*7+j by omega,hflat] at hv
      have hje:j < (enc d'[r]).length:=by rw [encLen];exact hj
      rw [List.getElem?_eq_getElem hje]
      simp only [id,Option.some.injEq] at hv
      rw [← hv,getElem!_pos (enc d'[r]) j hje]
     obtain⟨d2,e1,e2⟩:=encRep _ j s v hs hve
     rw [e1] at hd
     simp only [Option.some.injEq] at hd;subst hd
     exact e2.ext ⟨fun _ h=>h,fun b' hb'=>by
      have hne:b≠b':=fun he=>hS.1 (he ▸ hb')
      simp [putRowK,putRow,mapBlock,Sort.ahead,Array.getElem?_modify,hne]⟩
  obtain⟨g1,g2⟩:=hi.setSame (w':=putRowK enc 7 (Sort.ahead w m) b ((β k).off*7) d') (c:=.rows 7 (siR (sortSi l))) hbm hbase (fun b' hne=>by
   simp [putRowK,putRow,mapBlock,Sort.ahead,Array.getElem?_modify,Ne.symm hne]) rfl rfl rfl (by simp [putRowK,putRow,mapBlock,Sort.ahead]) hnew
  obtain⟨g3,g4⟩:=g1.grow (S':=S) (w':=Sort.grow (putRowK enc 7 (Sort.ahead w m) b ((β k).off*7) d') os) (fun _ h=>h) (fun _ h=>.inl h)
   (fun b' hb'=>by have:=g1.Slt b' hb';simp only [Sort.grow,Array.size_append];omega) (fun b' hb'=>by simp only [Sort.grow];exact Array.getElem?_append_left hb') rfl rfl rfl (by simp [Sort.grow])
  exact⟨_,S,β,rfl,g3,g2.trans g4,.tuple [] [] rfl (by simp),fun _ _=>rfl⟩
end Go.Abs
