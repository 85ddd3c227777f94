/- slices.SortFunc on a slice of the call's own: sorted by name -/
import Derived.Test.YtaneedhchnaniaaGreatDoorQS19
import Derived.Test.YtaneedhchnaniaaGreatDoorQS18
import Derived.Test.YtaneedhchnaniaaGreatDoorQSB
namespace Go.Abs
set_option linter.unusedSimpArgs false
set_option linter.unusedVariables false
open Go Go.Proofs Go.Sort Tryz
set_option maxRecDepth 100000
set_option maxHeartbeats 1000000
theorem cmpS_anti:∀ a b:Str,cmpS b a = - cmpS a b
 | [],[]=>rfl
 | [],_::_=>rfl
 | _::_,[]=>rfl
 | x::xs,y::ys=>by
  have ih:=cmpS_anti xs ys
  simp only [cmpS,UInt8.lt_iff_toNat_lt]
  rcases Nat.lt_trichotomy x.toNat y.toNat with h | h | h
  ·have:¬ y.toNat < x.toNat:=by omega
   simp [h,this]
  ·simp [h,ih]
  ·have:¬ x.toNat < y.toNat:=by omega
   simp [h,this]
theorem cmpS_trans:∀ a b c:Str,cmpS a b < 0→cmpS b c < 0→cmpS a c < 0
 | [],[],_,h,_=>by simp [cmpS] at h
 | [],_::_,[],_,h=>by simp [cmpS] at h
 | [],_::_,_::_,_,_=>by simp [cmpS]
 | _::_,[],_,h,_=>by simp [cmpS] at h
 | _::_,_::_,[],_,h=>by simp [cmpS] at h
 | x::xs,y::ys,z::zs,h1,h2=>by
  have ih:=cmpS_trans xs ys zs
  simp only [cmpS,UInt8.lt_iff_toNat_lt] at *
  by_cases a1:x.toNat < y.toNat
  ·by_cases b1:y.toNat < z.toNat
   ·rw [if_pos (by omega)];decide
   ·rw [if_neg b1] at h2
    by_cases b2:z.toNat < y.toNat
    ·rw [if_pos b2] at h2;omega
    ·rw [if_pos (by omega)];decide
  ·rw [if_neg a1] at h1
   by_cases a2:y.toNat < x.toNat
   ·rw [if_pos a2] at h1;omega
   ·rw [if_neg a2] at h1
    by_cases b1:y.toNat < z.toNat
    ·rw [if_pos (by omega)];decide
    ·rw [if_neg b1] at h2
     by_cases b2:z.toNat < y.toNat
     ·rw [if_pos b2] at h2;omega
     ·rw [if_neg b2] at h2
      rw [if_neg (by omega),if_neg (by omega)]
      exact ih h1 h2
theorem cmpS_le_trans (a b c:Str)(h1:cmpS a b≤0)(h2:cmpS b c≤0):cmpS a c≤0:=by
 by_cases e1:cmpS a b=0
 ·rw [cmpS_zero] at e1;rw [e1];exact h2
 ·by_cases e2:cmpS b c=0
  ·rw [cmpS_zero] at e2;rw [← e2];exact h1
  ·have:=cmpS_trans a b c (by omega) (by omega);omega
theorem cmpS_swo {α:Type} (nm:α→Str):SWO (ltOf fun x y:α=>cmpS (nm x) (nm y)) where
 irrefl x:=by simp [ltOf,cmpS_refl]
 trans x y z h1 h2:=by
  simp only [ltOf,decide_eq_true_eq] at *
  exact cmpS_trans _ _ _ h1 h2
 ntrans x y z h1 h2:=by
  simp only [ltOf,decide_eq_false_iff_not] at *
  have a1:=cmpS_anti (nm x) (nm y)
  have a2:=cmpS_anti (nm y) (nm z)
  have a3:=cmpS_anti (nm x) (nm z)
  have:=cmpS_le_trans (nm z) (nm y) (nm x) (by omega) (by omega)
  omega
def sortSi (l:List Sig):List Sig:=l.mergeSort fun a b=>decide (cmpS a.name b.name≤0)
theorem sortSi_perm (l:List Sig):(sortSi l).Perm l:=List.mergeSort_perm _ _
theorem sortSi_sorted (l:List Sig):(sortSi l).Pairwise fun a b=>cmpS a.name b.name≤0:=by
 refine (List.pairwise_mergeSort (le:=fun a b:Sig=>decide (cmpS a.name b.name≤0)) ?_ ?_ l).imp (by simp)
 ·intro a b c h1 h2
  simp only [decide_eq_true_eq] at *
  exact cmpS_le_trans _ _ _ h1 h2
 ·intro a b
  have:=cmpS_anti a.name b.name
  simp only [Bool.or_eq_true,decide_eq_true_eq]
  omega
theorem sortSi_unique {l l':List Sig} (hn:(l.map (·.name)).Nodup)(hp:l'.Perm l)(hs:l'.Pairwise fun a b=>cmpS a.name b.name≤0):l'=sortSi l:=by
 refine List.Perm.eq_of_pairwise (le:=fun a b:Sig=>cmpS a.name b.name≤0) ?_ hs (sortSi_sorted l) (hp.trans (sortSi_perm l).symm)
 intro a b ha hb h1 h2
 have:=cmpS_anti a.name b.name
 have he:a.name=b.name:=cmpS_zero.1 (by omega)
 have ha':a∈l:=hp.mem_iff.1 ha
 have hb':b∈l:=(sortSi_perm l).mem_iff.1 hb
 obtain⟨i,hi⟩:=List.getElem?_of_mem ha'
 obtain⟨j,hj⟩:=List.getElem?_of_mem hb'
 have h1:(l.map (·.name))[i]? = some a.name:=by simp [hi]
 have h2:(l.map (·.name))[j]? = some a.name:=by simp [hj,he]
 have hlt:i < (l.map (·.name)).length:=(List.getElem?_eq_some_iff.1 h1).1
 have:=(List.getElem?_inj hlt hn).1 (h1.trans h2.symm)
 subst this
 rw [hi] at hj
 simpa using hj
theorem opB_sort {sl:SL} {bx:Boxes} {dst:Option Nat} {x:Operand} {tys:List TypeId} (k:Nat)(l:List Sig)(hx:opnd sl x=.acc k)(hb:bget bx k=some (.rows 7 (siR l)))(hn:(l.map (·.name)).Nodup)(hlen:l.length≤sm) :
  OpB prog sl bx dst (.call ⟨.value (.func 197),[x,.func 198].toArray,tys.toArray⟩) (.tuple []) ((k,.rows 7 (siR (sortSi l)))::berase k bx) []:=by
 intro o ho _ C S w β a hi ha
 have hE:Enters prog 197:=(Enters.of func197 rfl (by decide))
 have hx1:=ha x (mC ho)
 rw [hx] at hx1
 have hbm:=mem_of_bget hb
 obtain⟨q1,q2,q3,q4,q5,q6,q7⟩:=hi.box k _ hbm
 generalize hv:a.eval x=v at hx1
 cases hx1
 have hargsEq:(#[x,.func 198].map a.eval)++(#[]:Array Value) = #[.slice ((β k).base.map fun b=>⟨b,(β k).off*(β k).sz,none⟩) (β k).len (β k).cap,.func (.func 198) #[] #[]]:=by
  apply Array.ext'
  rw [Array.toList_append,Array.toList_map]
  show [a.eval x,Value.func (.func 198) #[] #[]]++[]=_
  rw [hv];rfl
 have hfv:a.eval (.func 197)=.func (.func 197) #[] #[]:=rfl
 refine Or.inl ?_
 unfold Oper.wp
 rw [run_enter hE ho hfv,Oper.upon_enter]
 have hlen2:l.length=(β k).len:=by rw [← q2];simp [siR]
 have hcbs:([x,.func 198].toArray.map a.eval)++(#[]:Array Value) = #[.slice ((β k).base.map fun b=>⟨b,(β k).off*(β k).sz,none⟩) (β k).len (β k).cap,.func (.func 198) #[] #[]]:=hargsEq
 rw [hcbs]
 clear hcbs hargsEq
 generalize hbase:(β k).base=ob at q7
 cases ob with
 | none =>
  simp only at q7
  have hl0:l=[]:=List.eq_nil_of_length_eq_zero (by omega)
  subst hl0
  rw [show (β k).len=0 by omega]
  refine (AnyF.slices_SortFunc_none sortS _ _ _ w).mono ?_
  rintro e w' ⟨rfl,rfl⟩
  refine⟨_,S,β,rfl,hi.sub fun j c hj=>?_,SExt.refl S _,.tuple [] [] rfl (by simp),fun _ _=>rfl⟩
  rcases List.mem_cons.1 hj with h | h
  ·rw [h,show sortSi []=[] by simp [sortSi]];exact hbm
  ·exact (mem_berase.1 h).2
 | some b =>
  simp only at q7
  obtain⟨ty,vs,hh,hcap,hrep⟩:=q7
  obtain⟨n,hn0⟩:∃ n,n=l.length:=⟨_,rfl⟩
  let nm:Nat→Str:=fun i=>((l[i]?).getD default).name
  have hin:∀ i,i < n→((β k).off+i)*7+7≤vs.length:=fun i h=>by
   have h1:((β k).off+i+1)*7≤((β k).off+(β k).cap)*7:=Nat.mul_le_mul_right _ (by omega)
   omega
  let enc:Nat→List Value:=fun i=>if i < n then (vs.drop (((β k).off+i)*7)).take 7 else [sv (nm i),.int .i64 0,.int .i64 0,.int .i64 0,.int .i64 0,.int .i64 0,.int .i64 0]
  have encLen:∀ i,(enc i).length=7:=fun i=>by
   simp only [enc]
   split
   ·rename_i h
    have:=hin i h
    rw [List.length_take,List.length_drop];omega
   ·rfl
  have encGet:∀ i j,i < n→j < 7→(enc i)[j]? = vs[((β k).off+i)*7+j]?:=fun i j h hj=>by
   simp only [enc,if_pos h]
   rw [List.getElem?_take_of_lt hj,List.getElem?_drop]
  have rowAt:∀ i,i < n→∃ s,l[i]? = some s∧(siR l)[i]? = some (siC s):=fun i h=>⟨l[i]'(by omega),List.getElem?_eq_getElem _,siR_get (List.getElem?_eq_getElem _)⟩
  have encRep:∀ i j s v,l[i]? = some s→(enc i)[j]? = some v→∃ d,(siC s)[j]? = some d∧RepC S w d v:=fun i j s v hs he=>by
   have hi':i < n:=by have:=(List.getElem?_eq_some_iff.1 hs).1;omega
   have hj:j < 7:=by have:=(List.getElem?_eq_some_iff.1 he).1;rw [encLen] at this;exact this
   rw [encGet i j hi' hj] at he
   have hsl:j < (siC s).length:=by rw [show (siC s).length=7 from rfl];exact hj
   exact⟨_,List.getElem?_eq_getElem hsl,hrep i j (siC s) _ v (siR_get hs) (List.getElem?_eq_getElem hsl) he⟩
  have encOne:∀ i,∀ v∈enc i,v.oneCell'=true:=fun i v hv=>by
   by_cases h:i < n
   ·obtain⟨s,hs,hr⟩:=rowAt i h
    obtain⟨j,hj⟩:=List.getElem?_of_mem hv
    obtain⟨d,h1,h2⟩:=encRep i j s v hs hj
    exact h2.one (q6 _ (List.mem_of_getElem? hr) d (List.mem_of_getElem? h1))
   ·simp only [enc,if_neg h,List.mem_cons,List.not_mem_nil,or_false] at hv
    rcases hv with rfl | rfl | rfl | rfl | rfl | rfl | rfl <;> rfl
  have encHead:∀ i,∃ a1 a2 a3 a4 a5 a6,enc i=[sv (nm i),a1,a2,a3,a4,a5,a6]:=fun i=>by
   by_cases h:i < n
   ·obtain⟨s,hs,hr⟩:=rowAt i h
    have hl:=encLen i
    have h0:=encRep i 0 s
    match he:enc i,hl with
    | [v0,a1,a2,a3,a4,a5,a6],_ =>
     obtain⟨d,h1,h2⟩:=h0 v0 hs (by rw [he];rfl)
     have:d=.str s.name:=by simpa [siC] using h1.symm
     subst this
     have:v0=sv (nm i):=by
      have hv0:=(RepV.d (β:=β) _ _ h2).inv_str.1
      rw [hv0]
      simp only [nm,hs,Option.getD_some];rfl
     exact⟨a1,a2,a3,a4,a5,a6,by rw [this]⟩
   ·exact⟨.int .i64 0,.int .i64 0,.int .i64 0,.int .i64 0,.int .i64 0,.int .i64 0,by simp only [enc,if_neg h]⟩
  have hcmp:CmpLays prog 198 #[] enc 7 (fun x y=>cmpS (nm x) (nm y)) b ((β k).off*7) (Array.range n).size w:=fun m os dk _ x y=>by
   obtain⟨a1,a2,a3,a4,a5,a6,h1⟩:=encHead x
   obtain⟨b1,b2,b3,b4,b5,b6,h2⟩:=encHead y
   have:=set1_calls (nm x) (nm y) a1 a2 a3 a4 a5 a6 b1 b2 b3 b4 b5 b6 (sortWorldK enc 7 w b ((β k).off*7) m dk os)
   rw [h1,h2]
   exact this
  have hH:HoldsK enc 7 w b ((β k).off*7) (Array.range n):=fun j hj=>by
   rw [size_flatK,Array.size_range] at hj
   have hj7:j / 7 < n:=by omega
   have hfl:(flatK enc 7 (Array.range n))[j]! = (enc (j / 7))[j % 7]!:=by
    rw [get_flatK _ _ _ _ (by rw [Array.size_range];exact hj)]
    congr 2
    rw [getElem!_pos _ _ (by rw [Array.size_range];exact hj7),Array.getElem_range]
   have hlt:=hin (j / 7) hj7
   have hpos:((β k).off+j / 7)*7+j % 7=(β k).off*7+j:=by omega
   have hlt2:(β k).off*7+j < vs.length:=by omega
   have hen:(enc (j / 7))[j % 7]! = vs[(β k).off*7+j]:=by
    have:=encGet (j / 7) (j % 7) hj7 (Nat.mod_lt _ (by decide))
    rw [hpos,List.getElem?_eq_getElem hlt2] at this
    rw [List.getElem!_eq_getElem?_getD,this];rfl
   refine⟨?_,?_⟩
   ·simp only [World.cell?,hh,Option.isSome_none,id,hfl,hen]
    simp [hlt2]
   ·simp [World.frozen?,hh]
  have hbl:b < w.heap.size:=(hi.priv k _ hbm b hbase).2.1
  have hS:=hi.priv k _ hbm b hbase
  rw [q1,← hlen2,← hn0]
  have hsort:=AnyQ.slices_SortFunc sortS 7 isAgg59 sizeOf59 enc encLen encOne (fun x y=>cmpS (nm x) (nm y)) (cmpS_swo nm) 198 #[] b ((β k).off*7) (β k).cap (Array.range n) w
   (enters_of func198 (by kernel_rfl) rfl) hcmp hH hbl (by rw [Array.size_range];unfold sm at hlen;omega)
  rw [Array.size_range] at hsort
  refine hsort.mono ?_
  rintro e w' ⟨rfl,d',m,os,hperm,hsorted,rfl⟩
  obtain⟨p1,_,p3⟩:=hperm
  rw [Array.size_range] at p1
  have p4:d'.toList.Perm (List.range n):=by
   rw [show d'.extract 0 n=d' by rw [← p1];exact Array.extract_size,show (Array.range n).extract 0 n=Array.range n by have:=Array.extract_size (xs:=Array.range n);rwa [Array.size_range] at this,Array.toList_range] at p3
   exact p3
  have p5:∀ i (h:i < d'.size),d'[i] < n:=fun i h=>List.mem_range.1 (p4.mem_iff.1 (Array.getElem_mem_toList h))
  have hl':d'.toList.map (fun i=>(l[i]?).getD default)=sortSi l:=by
   refine sortSi_unique hn ?_ ?_
   ·have h1:=p4.map fun i=>(l[i]?).getD default
    have h2:(List.range n).map (fun i=>(l[i]?).getD default)=l:=by
     refine List.ext_getElem? fun i=>?_
     rw [List.getElem?_map]
     by_cases h:i < n
     ·rw [List.getElem?_range h,Option.map_some,List.getElem?_eq_getElem (by omega),Option.getD_some]
     ·rw [List.getElem?_eq_none (by simp;omega),List.getElem?_eq_none (by omega)];rfl
    rw [h2] at h1;exact h1
   ·rw [List.pairwise_map,List.pairwise_iff_getElem]
    intro i j hi' hj' hij
    have h1:=hsorted i j (Nat.zero_le _) hij (by rw [← p1];simpa using hj')
    rw [getElem!_pos d' i (by simpa using hi'),getElem!_pos d' j (by simpa using hj')] at h1
    simp only [ltOf,decide_eq_false_iff_not] at h1
    have h2:=cmpS_anti (nm d'[i]) (nm d'[j])
    have h3:¬ cmpS (nm d'[j]) (nm d'[i]) < 0:=h1
    have h4:cmpS (nm d'[i]) (nm d'[j])≤0:=by omega
    simpa [nm] using h4
  have hps:=sortSi_perm l
  have hd'l:d'.size=(sortSi l).length:=by rw [← hl'];simp
  have hnew:BoxOK S (putRowK enc 7 (Sort.ahead w m) b ((β k).off*7) d') β (β k) (.rows 7 (siR (sortSi l))):=by
   refine⟨q1,by simp only [siR,List.length_map,hps.length_eq];exact hlen2,q3,by simp only [siR,List.length_map,hps.length_eq];unfold sm lim at *;omega,?_,?_,?_⟩
   ·intro row hr
    obtain⟨s,_,rfl⟩:=List.mem_map.1 hr;rfl
   ·intro row hr d hd
    obtain⟨s,hs,rfl⟩:=List.mem_map.1 hr
    exact q6 _ (List.mem_map.2 ⟨s,hps.mem_iff.1 hs,rfl⟩) d hd
   ·rw [hbase]
    refine⟨ty,(putCells id ((β k).off*7) (flatK enc 7 d') ⟨vs⟩).toList,?_,by simpa [putCells] using hcap,?_⟩
    ·simp [putRowK,putRow,mapBlock,Sort.ahead,Array.getElem?_modify,hh,onCells]
    ·intro r j row d v hr hd hv
     have hrl:r < (sortSi l).length:=by have:=(List.getElem?_eq_some_iff.1 hr).1;simpa [siR] using this
     have hrd:r < d'.size:=by omega
     have hrow:row=siC ((l[d'[r]]?).getD default):=by
      rw [← hl'] at hr
      simp only [siR,List.getElem?_map,Array.getElem?_toList,Array.getElem?_eq_getElem hrd,Option.map_some,Option.some.injEq] at hr
      exact hr.symm
     obtain⟨s,hs,_⟩:=rowAt _ (p5 r hrd)
     rw [hs,Option.getD_some] at hrow
     subst hrow
     have hj:j < 7:=by have:=(List.getElem?_eq_some_iff.1 hd).1;rwa [show (siC s).length=7 from rfl] at this
     have hflat:(flatK enc 7 d')[r*7+j]! = (enc d'[r])[j]!:=by
      rw [get_flatK _ _ _ _ (by omega),show (r*7+j) / 7=r by omega,show (r*7+j) % 7=j by omega,getElem!_pos d' r hrd]
     have hin':=hin r (by omega)
     have hlt:((β k).off+r)*7+j < vs.length:=by omega
     have hve:(enc d'[r])[j]? = some v:=by
      rw [Array.getElem?_toList,putCells,Array.getElem?_mapIdx] at hv
      have hc:(⟨vs⟩:Array Value)[((β k).off+r)*7+j]? = some vs[((β k).off+r)*7+j]:=by simp [hlt]
      rw [hc,Option.map_some,if_pos ⟨by omega,by rw [size_flatK];omega⟩,show ((β k).off+r)*7+j - (β k).off*7=r*7+j by omega,hflat] at hv
      have hje:j < (enc d'[r]).length:=by rw [encLen];exact hj
      rw [List.getElem?_eq_getElem hje]
      simp only [id,Option.some.injEq] at hv
      rw [← hv,getElem!_pos (enc d'[r]) j hje]
     obtain⟨d2,e1,e2⟩:=encRep _ j s v hs hve
     rw [e1] at hd
     simp only [Option.some.injEq] at hd;subst hd
     exact e2.ext ⟨fun _ h=>h,fun b' hb'=>by
      have hne:b≠b':=fun he=>hS.1 (he ▸ hb')
      simp [putRowK,putRow,mapBlock,Sort.ahead,Array.getElem?_modify,hne]⟩
  obtain⟨g1,g2⟩:=hi.setSame (w':=putRowK enc 7 (Sort.ahead w m) b ((β k).off*7) d') (c:=.rows 7 (siR (sortSi l))) hbm hbase (fun b' hne=>by
   simp [putRowK,putRow,mapBlock,Sort.ahead,Array.getElem?_modify,Ne.symm hne]) rfl rfl rfl (by simp [putRowK,putRow,mapBlock,Sort.ahead]) hnew
  obtain⟨g3,g4⟩:=g1.grow (S':=S) (w':=Sort.grow (putRowK enc 7 (Sort.ahead w m) b ((β k).off*7) d') os) (fun _ h=>h) (fun _ h=>.inl h)
   (fun b' hb'=>by have:=g1.Slt b' hb';simp only [Sort.grow,Array.size_append];omega) (fun b' hb'=>by simp only [Sort.grow];exact Array.getElem?_append_left hb') rfl rfl rfl (by simp [Sort.grow])
  exact⟨_,S,β,rfl,g3,g2.trans g4,.tuple [] [] rfl (by simp),fun _ _=>rfl⟩
open Go Go.Proofs Tryz
theorem canon_name (s:Sig)(vars:List Str)(args:List Ty):(s.canon.subst vars args).name=s.name:=rfl
theorem specL_names (vars:List Str)(args:List Ty)(l:List Sig):∀ j,j≤l.length→((specL vars args l j).map (·.name)).Nodup∧∀ n,n∈(specL vars args l j).map (·.name)→∃ y,y∈l.take j∧y.name=n
 | 0,_=>by simp [specL]
 | j+1,h=>by
  obtain⟨h1,h2⟩:=specL_names vars args l j (by omega)
  have ht:l.take (j+1)=l.take j++[l[j]]:=by rw [List.take_add_one,List.getElem?_eq_getElem (by omega)];rfl
  rw [specL_succ (by omega) ht,ht]
  split
  ·rename_i hn
   simp only [newB,decide_eq_true_eq] at hn
   rw [List.map_append,List.nodup_append]
   refine⟨⟨h1,by simp,?_⟩,?_⟩
   ·rintro a ha b hb rfl
    simp only [List.map_cons,List.map_nil,List.mem_cons,List.not_mem_nil,or_false] at hb
    obtain⟨y,hy,he⟩:=h2 a ha
    exact hn y hy (he.trans hb)
   ·intro n hm
    rcases List.mem_append.1 hm with hm | hm
    ·obtain⟨y,hy,he⟩:=h2 n hm
     exact⟨y,List.mem_append.2 (.inl hy),he⟩
    ·simp only [List.map_cons,List.map_nil,List.mem_cons,List.not_mem_nil,or_false] at hm
     exact⟨l[j],List.mem_append.2 (.inr (by simp)),hm.symm⟩
  ·rw [List.append_nil]
   exact⟨h1,fun n hm=>by obtain⟨y,hy,he⟩:=h2 n hm;exact⟨y,List.mem_append.2 (.inl hy),he⟩⟩
theorem methL_names (p:Prog)(x:Ty):∀ j,j≤p.decls.length→((methL p x j).map (·.name)).Nodup∧∀ n,n∈(methL p x j).map (·.name)→∃ i,i < j∧methP p x n=(i:Nat)
 | 0,_=>by simp [methL]
 | j+1,h=>by
  obtain⟨h1,h2⟩:=methL_names p x j (by omega)
  have ht:p.decls.take (j+1)=p.decls.take j++[p.decls[j]]:=by rw [List.take_add_one,List.getElem?_eq_getElem (by omega)];rfl
  rw [methL_succ (by omega) ht]
  split
  ·rename_i hn
   simp only [methB,Bool.and_eq_true,decide_eq_true_eq] at hn
   rw [List.map_append,List.nodup_append]
   refine⟨⟨h1,by simp,?_⟩,?_⟩
   ·rintro a ha b hb rfl
    simp only [List.map_cons,List.map_nil,List.mem_cons,List.not_mem_nil,or_false] at hb
    obtain⟨i,hi,he⟩:=h2 a ha
    rw [hb,canon_name,hn.2] at he
    omega
   ·intro n hm
    rcases List.mem_append.1 hm with hm | hm
    ·obtain⟨i,hi,he⟩:=h2 n hm
     exact⟨i,by omega,he⟩
    ·simp only [List.map_cons,List.map_nil,List.mem_cons,List.not_mem_nil,or_false] at hm
     exact⟨j,by omega,by rw [hm,canon_name];exact hn.2⟩
  ·rw [List.append_nil]
   exact⟨h1,fun n hm=>by obtain⟨i,hi,he⟩:=h2 n hm;exact⟨i,by omega,he⟩⟩
def setU (p:Prog)(env:List Formal)(x:Ty):List Sig:=if instB p ((boundV env x).getD x) 2=true then specsT p ((boundV env x).getD x) else if (boundV env x).isSome=true then [] else methL p ((boundV env x).getD x) p.decls.length
def setT (p:Prog)(env:List Formal)(x:Ty):List Sig:=sortSi (setU p env x)
theorem specsT_names (p:Prog)(x:Ty):((specsT p x).map (·.name)).Nodup:=by
 unfold specsT
 split
 ·exact (specL_names _ _ _ _ (Nat.le_refl _)).1
 ·simp
theorem specsT_len (p:Prog)(h:p.Sm)(x:Ty):(specsT p x).length≤sm:=by
 unfold specsT
 split
 ·rename_i hi
  obtain⟨d,hd,_⟩:=inst_decl (by decide) hi
  rw [hd,Option.getD_some]
  exact Nat.le_trans (specL_len _ _ _ _) (h.decls.2 d (declT_mem hd)).sigs.1
 ·simp
theorem bound_Sm {env:List Formal} {x y:Ty} (he:∀ f,f∈env→f.Sm)(h:boundV env x=some y):y.Sm:=by
 unfold boundV at h
 split at h
 ·simp at h
 ·rw [Option.map_eq_some_iff] at h
  obtain⟨f,hf,rfl⟩:=h
  exact (he f (List.mem_of_getElem? hf)).bound
abbrev q1Z:List Nat:=[0,1,2,5,6,7,8,9,10,17,22,30,33]
theorem ok_Set (p:Prog)(h:p.Sm)(env:List Formal)(hel:env.length≤sm)(he:∀ f,f∈env→f.Sm)(x:Ty)(hx:x.Sm):CallOK prog 127 [.dptr (tabC p) 0,.d (.slice (foR env)),tyV x] (.d (.slice (siR (setT p env x)))):=by
 have hb:=ok_Bound env x hel he
 unfold setT setU
 have hlp:=h.decls.1
 have hbs:∀ y,boundV env x=some y→y.Sm:=fun y=>bound_Sm he
 generalize boundV env x=o at *
 cases o with
 | some y =>
  have hy:=hbs y rfl
  simp only [bndV] at hb
  simp only [Option.getD_some,Option.isSome_some,if_true]
  have hsp:=ok_TSpecs p h y hy
  have hnd:=specsT_names p y
  have hln:=specsT_len p h y
  have hsn:instB p y 2=false→specsT p y=[]:=fun hf=>by unfold specsT;rw [if_neg (by rw [hf];decide)]
  rw [show (if instB p y 2=true then specsT p y else [])=specsT p y by cases hf:instB p y 2 with | false=>rw [if_neg (by decide),hsn hf] | true=>rw [if_pos rfl]]
  generalize instB p y 2=bb at *
  refine cB func127 ?_
  refine sR q1Z ?_
  refine sC hb q1Z ?_
  refine kR q1Z fun K1 u1=>?_
  refine AWp.condT rfl ?_
  (refine lV q1Z fun K z=>?_;apply z;clear z K;try simp only [thenA,])
  refine u1 _ _ ?_
  clear u1 K1
  (refine AWp.seqR q1Z [22] (by decide +kernel) fun K z=>?_;refine ev ?_;refine⟨_,_,_,_,_,rfl,hsp,?_⟩;(try refine ev ?_);apply z;clear z K)
  refine sK fun K1 u1=>?_
  have fin:∀ sl bx,sget sl 9=.acc 22→bget bx 22=some (.rows 7 (siR (specsT p y)))→K1 sl bx:=fun sl bx g1 g2=>by
   refine u1 _ _ ?_
   refine AWp.weaken (sl':=[(9,.acc 22)]) (bx':=[(22,.rows 7 (siR (specsT p y)))]) (by simp [sle,vle,g1]) (by simp [ble,g2]) ?_
   (refine AWp.seqR q1Z [800035] (by decide +kernel) fun K z=>?_;refine ev ?_;refine⟨_,_,_,opB_sort 22 (specsT p y) rfl rfl hnd hln,?_⟩;(try refine ev ?_);apply z;clear z K)
   refine sR q1Z ?_
   exact aR
  cases bb
  ·refine sR q1Z ?_
   refine AWp.condF rfl (AWp.skip (fin _ _ rfl rfl))
  ·refine sR q1Z ?_
   refine AWp.condF rfl (AWp.skip (fin _ _ rfl rfl))
 | none =>
  simp only [Option.getD_none,Option.isSome_none,if_neg (show ¬ (false=true) by decide)]
  simp only [bndV] at hb
  have hsp:=ok_TSpecs p h x hx
  have hmt:=ok_TMethods p h x hx
  have hnd:=specsT_names p x
  have hln:=specsT_len p h x
  have hnd2:=(methL_names p x p.decls.length (Nat.le_refl _)).1
  have hln2:=Nat.le_trans (methL_len p x p.decls.length) hlp
  generalize instB p x 2=bb at *
  refine cB func127 ?_
  refine sR q1Z ?_
  refine sC hb q1Z ?_
  refine kR q1Z fun K1 u1=>?_
  refine AWp.condF rfl (AWp.skip (u1 _ _ ?_))
  clear u1 K1
  (refine AWp.seqR q1Z [22] (by decide +kernel) fun K z=>?_;refine ev ?_;refine⟨_,_,_,_,_,rfl,hsp,?_⟩;(try refine ev ?_);apply z;clear z K)
  refine sK fun K1 u1=>?_
  cases bb
  ·refine sR q1Z ?_
   refine AWp.condT rfl ?_
   (refine AWp.lastR q1Z [33] (by decide +kernel) fun K z=>?_;refine ev ?_;refine⟨_,_,_,_,_,rfl,hmt,?_⟩;(try refine ev ?_);apply z;clear z K;try simp only [thenA,])
   refine u1 _ _ ?_
   rw [if_neg (by decide)]
   (refine AWp.seqR q1Z [800035] (by decide +kernel) fun K z=>?_;refine ev ?_;refine⟨_,_,_,opB_sort 33 (methL p x p.decls.length) rfl rfl hnd2 hln2,?_⟩;(try refine ev ?_);apply z;clear z K)
   refine sR q1Z ?_
   exact aR
  ·refine sR q1Z ?_
   refine AWp.condF rfl (AWp.skip (u1 _ _ ?_))
   rw [if_pos rfl]
   (refine AWp.seqR q1Z [800035] (by decide +kernel) fun K z=>?_;refine ev ?_;refine⟨_,_,_,opB_sort 22 (specsT p x) rfl rfl hnd hln,?_⟩;(try refine ev ?_);apply z;clear z K)
   refine sR q1Z ?_
   exact aR
def InsI (m:List Sig)(i j:Nat):Prop:=∀ (a b:Nat)(s t:Sig),a < b→b≤i→b≠j→m[a]? = some s→m[b]? = some t→cmpS s.name t.name≤0
def swapS (m:List Sig)(j:Nat)(s t:Sig):List Sig:=(m.set j s).set (j - 1) t
theorem swapS_get {m:List Sig} {j:Nat} {s t:Sig} (hj:0 < j)(hs:m[j - 1]? = some s)(ht:m[j]? = some t)(a:Nat) :
  (swapS m j s t)[a]? = if a=j - 1 then some t else if a=j then some s else m[a]?:=by
 have h1:=(List.getElem?_eq_some_iff.1 hs).1
 have h2:=(List.getElem?_eq_some_iff.1 ht).1
 unfold swapS
 rw [List.getElem?_set,List.getElem?_set]
 by_cases a1:a=j - 1
 ·subst a1;simp;omega
 ·by_cases a2:a=j
  ·subst a2;simp [a1,Ne.symm a1,h2]
  ·simp [a1,a2,Ne.symm a1,Ne.symm a2]
theorem InsI.step {m:List Sig} {i j:Nat} {s t:Sig} (h:InsI m i j)(hj:0 < j)(hji:j≤i)(hs:m[j - 1]? = some s)(ht:m[j]? = some t)(hlt:cmpS t.name s.name < 0):InsI (swapS m j s t) i (j - 1):=by
 intro a b u v hab hbi hbj hu hv
 rw [swapS_get hj hs ht] at hu hv
 rw [if_neg hbj] at hv
 by_cases b1:b=j
 ·subst b1
  simp only [if_true,Option.some.injEq] at hv
  subst hv
  by_cases a1:a=b - 1
  ·rw [if_pos a1] at hu
   simp only [Option.some.injEq] at hu
   subst hu;omega
  ·rw [if_neg a1,if_neg (by omega)] at hu
   exact h a (b - 1) u s (by omega) (by omega) (by omega) hu hs
 ·rw [if_neg b1] at hv
  by_cases a1:a=j - 1
  ·rw [if_pos a1] at hu
   simp only [Option.some.injEq] at hu
   subst hu
   exact h j b t v (by omega) hbi (by omega) ht hv
  ·rw [if_neg a1] at hu
   by_cases a2:a=j
   ·rw [if_pos a2] at hu
    simp only [Option.some.injEq] at hu
    subst hu
    exact h (j - 1) b s v (by omega) hbi (by omega) hs hv
   ·rw [if_neg a2] at hu
    exact h a b u v hab hbi b1 hu hv
def InsO (m:List Sig)(i:Nat):Prop:=∀ (a b:Nat)(s t:Sig),a < b→b < i→m[a]? = some s→m[b]? = some t→cmpS s.name t.name≤0
theorem InsO.start {m:List Sig} {i:Nat} (h:InsO m i):InsI m i i:=fun a b s t hab hbi hbj hs ht=>h a b s t hab (by omega) hs ht
theorem InsI.done {m:List Sig} {i j:Nat} (h:InsI m i j)(hd:j=0∨∃ s t,m[j - 1]? = some s∧m[j]? = some t∧cmpS s.name t.name≤0):InsO m (i+1):=by
 intro a b s t hab hbi hs ht
 by_cases hbj:b=j
 ·subst hbj
  rcases hd with h0 | ⟨u,v,hu,hv,hc⟩
  ·omega
  ·rw [hv] at ht;simp only [Option.some.injEq] at ht;subst ht
   by_cases a1:a=b - 1
   ·subst a1;rw [hu] at hs;simp only [Option.some.injEq] at hs;subst hs;exact hc
   ·exact cmpS_le_trans _ _ _ (h a (b - 1) s u (by omega) (by omega) (by omega) hs hu) hc
 ·exact h a b s t hab (by omega) hbj hs ht
def nameI (l:List Sig)(nm:Str):Int:=idxF (fun s=>decide (s.name=nm)) l
theorem ok_pick1 (nm:Str)(s:Sig):CallOK prog 278 [siV s,.dptr [.str nm] 0] (boolV (decide (s.name=nm))):=by
 refine cB func278 ?_
 refine sR [0,1,2,3] ?_
 refine sR [0,1,2,3] ?_
 exact aR
def sig0:Sig:=⟨[],[],[],.mk [] [] 0,0⟩
def pickR (l:List Sig)(nm:Str):SV:=if nameI l nm < 0 then .tuple [siV sig0,boolV false] else .tuple [siV ((l[(nameI l nm).toNat]?).getD sig0),boolV true]
abbrev q1bx:List Nat:=[0,1,3,4,5,6,11]
theorem ok_pick (l:List Sig)(hl:l.length≤sm)(nm:Str):CallOK prog 214 [.d (.slice (siR l)),strV nm] (pickR l nm):=by
 have hi:=ok_IndexFuncS 278 [.dptr [.str nm] 0] (fun _=>rfl) (fun s=>decide (s.name=nm)) l hl (fun s _=>ok_pick1 nm s)
 have hc:=idxF_cases (fun s:Sig=>decide (s.name=nm)) l
 unfold pickR nameI
 generalize idxF (fun s:Sig=>decide (s.name=nm)) l=k at *
 refine cB func214 ?_
 refine sR q1bx ?_
 refine AWp.freeze 3 rfl rfl ?_
 refine AWp.weaken (sl':=[(0,.d (.slice (siR l))),(3,.dptr [.str nm] 0),(4,.box 4 0),(5,boolV false)]) (bx':=[(4,.cells si0)])
  (by simp [subSl,SV.sub,sle,vle,sget]) (by simp [subBx,BoxC.sub,SV.subL,SV.sub,ble,bget,berase]) ?_
 refine sC hi q1bx ?_
 rcases hc with ⟨rfl,_⟩ | ⟨j,s,rfl,hs,_⟩
 ·refine kR q1bx fun K1 u1=>?_
  refine tI ?_
  refine sR q1bx ?_
  exact aR
 ·have hge:¬ (j:Int) < 0:=by omega
  rw [if_neg hge]
  simp only [Int.toNat_natCast,hs,Option.getD_some]
  refine kR1 hge q1bx fun K1 u1=>?_
  refine kI u1 ?_
  (refine sV q1bx fun K z=>?_;refine ci (siR_get hs) ?_;apply z;clear z K)
  exact aR
def missB (l:List Sig)(w:Sig):Bool:=if nameI l w.name < 0 then true else !sameSi ((l[(nameI l w.name).toNat]?).getD sig0).canon w.canon
def missL (l m:List Sig):List Str:=(m.filter (missB l)).map (·.name)
theorem missL_succ {l m:List Sig} {j:Nat} {d:Sig} (ht:m.take (j+1)=m.take j++[d]):missL l (m.take (j+1))=missL l (m.take j)++if missB l d=true then [d.name] else []:=by
 unfold missL
 rw [ht,List.filter_append,List.map_append]
 congr 1
 simp only [List.filter_cons,List.filter_nil]
 split <;> rfl
theorem missL_len (l m:List Sig)(j:Nat):(missL l (m.take j)).length≤j:=by
 unfold missL
 rw [List.length_map]
 exact Nat.le_trans (List.length_filter_le ..) (by rw [List.length_take];omega)
theorem strR_app (l m:List Str):strR (l++m)=strR l++strR m:=by simp [strR]
abbrev q2bx:List Nat:=[0,1,4,5,7,8,9,10,11,12,13,30]
theorem ok_Missing (l m:List Sig)(hl:l.length≤sm)(hm:m.length≤sm)(hs:∀ s,s∈l→s.Sm)(ht:∀ s,s∈m→s.Sm):CallOK prog 195 [.d (.slice (siR l)),.d (.slice (siR m))] (strsV (missL l m)):=by
 refine cB func195 ?_
 refine sR q2bx ?_
 refine sR q2bx ?_
 refine AWp.promote 5 1 5 rfl ?_
 refine kR q2bx fun K1 u1=>?_
 refine AWp.block (AWp.forIdx m (X:=Unit) (fun j _=>[(0,.d (.slice (siR l))),(5,.acc 5),(10,.d (.slice (siR m))),(11,intV m.length),(12,intV j)]) (fun j _=>[(5,.rows 1 (strR (missL l (m.take j))))])
  (fun j _=>True) () trivial sS (by simp [ble,bget,missL,strR]) ?_ ?_)
 ·intro _ _
  rw [List.take_length]
  refine sR1 Int.lt_irrefl q2bx ?_
  refine AWp.stop rfl ?_
  simp only [thenA,blockA,if_true]
  refine u1 _ _ ?_
  refine sR q2bx ?_
  exact aR
 ·intro j _ d hd hmem dp tk hlt _
  have hlen:=missL_len l m j
  have hsucc:=missL_succ (l:=l) tk
  have hpk:=ok_pick l hl d.name
  have hdm:=ht d hmem
  have hal:∀ e,e∈l→CallOK prog 266 [siV e,siV d] (boolV (sameSi e.canon d.canon)):=fun e hem=>ok_BAlike e d (hs e hem) hdm
  have hc:=idxF_cases (fun s:Sig=>decide (s.name=d.name)) l
  unfold pickR at hpk
  unfold missB at hsucc
  unfold nameI at *
  generalize idxF (fun s:Sig=>decide (s.name=d.name)) l=k at *
  refine sR1 hlt q2bx ?_
  refine AWp.goOn rfl ?_
  refine sK fun K2 u2=>?_
  refine AWp.block ?_
  (refine sV q2bx fun K z=>?_;refine ci (siR_get hd) ?_;apply z;clear z K)
  rcases hc with ⟨rfl,_⟩ | ⟨q,e,rfl,he,_⟩
  ·rw [if_pos (show (-1:Int) < 0 by decide)] at hpk hsucc
   rw [if_pos rfl] at hsucc
   refine sC hpk q2bx ?_
   refine sR q2bx ?_
   refine AWp.condT rfl ?_
   (refine lV q2bx fun K z=>?_;refine⟨by simp,by unfold lim sm at *;omega,?_⟩;(try refine ev ?_);apply z;clear z K;try simp only [thenA,blockA])
   refine u2 _ _ ?_
   clear u2 K2
   refine lT q2bx ?_
   exact⟨(),trivial,sS,by simp [ble,bget,hsucc,strR]⟩
  ·have hge:¬ (q:Int) < 0:=by omega
   rw [if_neg hge] at hpk hsucc
   simp only [Int.toNat_natCast,he,Option.getD_some] at hpk hsucc
   have ha:=hal e (List.mem_of_getElem? he)
   generalize sameSi e.canon d.canon=bb at *
   cases bb
   ·rw [if_pos (by decide)] at hsucc
    refine sC hpk q2bx ?_
    refine sC ha q2bx ?_
    refine AWp.condT rfl ?_
    (refine lV q2bx fun K z=>?_;refine⟨by simp,by unfold lim sm at *;omega,?_⟩;(try refine ev ?_);apply z;clear z K;try simp only [thenA,blockA])
    refine u2 _ _ ?_
    clear u2 K2
    refine lT q2bx ?_
    exact⟨(),trivial,sS,by simp [ble,bget,hsucc,strR]⟩
   ·rw [if_neg (by decide),List.append_nil] at hsucc
    refine sC hpk q2bx ?_
    refine sC ha q2bx ?_
    refine AWp.condF rfl (AWp.skip (u2 _ _ ?_))
    clear u2 K2
    refine lT q2bx ?_
    exact⟨(),trivial,sS,by simp [ble,bget,hsucc]⟩
theorem ok_Covers (l m:List Sig)(hl:l.length≤sm)(hm:m.length≤sm)(hs:∀ s,s∈l→s.Sm)(ht:∀ s,s∈m→s.Sm):CallOK prog 126 [.d (.slice (siR l)),.d (.slice (siR m))] (boolV (decide (missL l m=[]))):=by
 have h:=ok_Missing l m hl hm hs ht
 have e:decide (((missL l m).length:Int)=0)=decide (missL l m=[]):=by
  by_cases h0:missL l m=[]
  ·simp [h0]
  ·have h1:¬ ((missL l m).length:Int)=0:=by have:=List.length_pos_iff.2 h0;omega
   rw [decide_eq_false h0,decide_eq_false h1]
 rw [← e]
 generalize missL l m=z at *
 refine cB func126 ?_
 refine sR [0,1,4] ?_
 refine sC h [0,1,4] ?_
 exact aR
theorem specL_Sm {vars:List Str} {args:List Ty} (ha:∀ u,u∈args→u.Sm) {l:List Sig} (hl:∀ s,s∈l→s.Sm)(j:Nat):∀ s,s∈specL vars args l j→s.Sm:=fun s hs=>by
 unfold specL at hs
 obtain⟨⟨x,i⟩,hx,rfl⟩:=List.mem_map.1 hs
 have h1:=(List.mem_filter.1 hx).1
 have h2:=List.mem_of_mem_take (List.fst_mem_of_mem_zipIdx h1)
 exact Sig.Sm.subst ha (hl x h2).canon
theorem setU_Sm {p:Prog} (h:p.Sm) {env:List Formal} (he:∀ f,f∈env→f.Sm) {x:Ty} (hx:x.Sm):∀ s,s∈setU p env x→s.Sm:=by
 have hy:((boundV env x).getD x).Sm:=by
  cases hb:boundV env x with
  | none=>exact hx
  | some y=>exact bound_Sm he hb
 unfold setU
 generalize (boundV env x).getD x=y at *
 intro s hs
 split at hs
 ·rename_i hi
  unfold specsT at hs
  rw [if_pos hi] at hs
  obtain⟨d,hd,_⟩:=inst_decl (by decide) hi
  rw [hd,Option.getD_some] at hs
  exact specL_Sm hy.arg (h.decls.2 d (declT_mem hd)).sigs.2 _ s hs
 ·split at hs
  ·simp at hs
  ·unfold methL at hs
   obtain⟨⟨d,i⟩,hx,rfl⟩:=List.mem_map.1 hs
   have h1:=(List.mem_filter.1 hx).1
   have h2:d∈p.decls:=List.mem_of_mem_take (List.fst_mem_of_mem_zipIdx h1)
   exact Sig.Sm.subst hy.arg (h.decls.2 d h2).sig.canon
theorem setU_len {p:Prog} (h:p.Sm)(env:List Formal)(x:Ty):(setU p env x).length≤sm:=by
 unfold setU
 split
 ·exact specsT_len p h _
 ·split
  ·simp
  ·exact Nat.le_trans (methL_len ..) h.decls.1
theorem setT_Sm {p:Prog} (h:p.Sm) {env:List Formal} (he:∀ f,f∈env→f.Sm) {x:Ty} (hx:x.Sm):∀ s,s∈setT p env x→s.Sm:=fun s hs=>setU_Sm h he hx s ((sortSi_perm _).mem_iff.1 hs)
theorem setT_len {p:Prog} (h:p.Sm)(env:List Formal)(x:Ty):(setT p env x).length≤sm:=by
 unfold setT;rw [(sortSi_perm _).length_eq];exact setU_len h env x
def isIface (p:Prog)(env:List Formal)(x:Ty):Bool:=instB p x 2 && !(boundV env x).isSome
abbrev q1dx:List Nat:=[0,1,2,5,6,8,10,20]
theorem ok_IsInterface (p:Prog)(h:p.Sm)(env:List Formal)(hel:env.length≤sm)(he:∀ f,f∈env→f.Sm)(x:Ty)(hx:x.Sm):CallOK prog 125 [.dptr (tabC p) 0,.d (.slice (foR env)),tyV x] (boolV (isIface p env x)):=by
 have hb:=ok_Bound env x hel he
 have hsp:=ok_TSpecs p h x hx
 unfold isIface
 generalize boundV env x=o at *
 generalize instB p x 2=bb at *
 refine cB func125 ?_
 refine sR q1dx ?_
 cases o with
 | none =>
  simp only [bndV] at hb
  refine sC hb q1dx ?_
  (refine AWp.seqR q1dx [20] (by decide +kernel) fun K z=>?_;refine ev ?_;refine⟨_,_,_,_,_,rfl,hsp,?_⟩;(try refine ev ?_);apply z;clear z K)
  cases bb
  ·refine sR q1dx ?_
   exact aR
  ·refine sR q1dx ?_
   exact aR
 | some y =>
  simp only [bndV] at hb
  refine sC hb q1dx ?_
  (refine AWp.seqR q1dx [20] (by decide +kernel) fun K z=>?_;refine ev ?_;refine⟨_,_,_,_,_,rfl,hsp,?_⟩;(try refine ev ?_);apply z;clear z K)
  cases bb
  ·refine sR q1dx ?_
   exact aR
  ·refine sR q1dx ?_
   exact aR
def implB (p:Prog)(env:List Formal)(t i:Ty):Bool:=if isIface p env i=true then decide (missL (setT p env t) (setT p env i)=[]) else sameT t i
abbrev q2dx:List Nat:=[0,1,2,3,6,7,8,13]
theorem ok_Implements (p:Prog)(h:p.Sm)(env:List Formal)(hel:env.length≤sm)(he:∀ f,f∈env→f.Sm)(t i:Ty)(ht:t.Sm)(hi:i.Sm):CallOK prog 63 [.dptr (tabC p) 0,.d (.slice (foR env)),tyV t,tyV i] (boolV (implB p env t i)):=by
 have h1:=ok_IsInterface p h env hel he i hi
 have h2:=ok_TSame t i ht
 have h3:=ok_Set p h env hel he t ht
 have h4:=ok_Set p h env hel he i hi
 have h5:=ok_Covers (setT p env t) (setT p env i) (setT_len h env t) (setT_len h env i) (setT_Sm h he ht) (setT_Sm h he hi)
 unfold implB
 generalize isIface p env i=bb at *
 generalize setT p env t=l at *
 generalize setT p env i=m at *
 refine cB func63 ?_
 refine sR q2dx ?_
 cases bb
 ·rw [if_neg (by decide)]
  refine kC h1 q2dx fun K1 u1=>?_
  refine tI ?_
  refine sC h2 q2dx ?_
  exact aR
 ·rw [if_pos rfl]
  refine kC h1 q2dx fun K1 u1=>?_
  refine kI u1 ?_
  (refine sG q2dx [] 7 [] fun K z=>?_;refine ev ?_;refine cc h3 ?_;refine cc h4 ?_;refine cc h5 ?_;apply z;clear z K)
  exact aR
end Go.Abs
