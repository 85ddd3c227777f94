/- slices.SortFunc on a slice of the call's own: sorted by name -/
import Derived.Test.YtfjaahliphbklaaGreatDoorJS19
import Derived.Test.YtfjaahliphbklaaGreatDoorJS18
namespace Go.Abs
set_option linter.unusedSimpArgs false
set_option linter.unusedVariables false
open Go Go.Proofs Go.Sort Tryz
set_option maxRecDepth 100000
set_option maxHeartbeats 1000000
theorem A4k:∀ a b:Str,A2r b a = - A2r a b
 | [],[]=>rfl
 | [],_::_=>rfl
 | _::_,[]=>rfl
 | x::xs,y::ys=>by
  have ih:=A4k xs ys;simp only [A2r,UInt8.lt_iff_toNat_lt];rcases Nat.lt_trichotomy x.toNat y.toNat with h | h | h
  ·have:¬ y.toNat < x.toNat:=by omega
   simp [h,this]
  ·simp [h,ih]
  ·have:¬ x.toNat < y.toNat:=by omega
   simp [h,this]
theorem A9k:∀ a b c:Str,A2r a b < 0→A2r b c < 0→A2r a c < 0
 | [],[],_,h,_=>by simp [A2r] at h
 | [],_::_,[],_,h=>by simp [A2r] at h
 | [],_::_,_::_,_,_=>by simp [A2r]
 | _::_,[],_,h,_=>by simp [A2r] at h
 | _::_,_::_,[],_,h=>by simp [A2r] at h
 | x::xs,y::ys,z::zs,h1,h2=>by
  have ih:=A9k xs ys zs;simp only [A2r,UInt8.lt_iff_toNat_lt] at *;by_cases a1:x.toNat < y.toNat
  ·by_cases b1:y.toNat < z.toNat
   ·rw [if_pos (by omega)];decide
   ·rw [if_neg b1] at h2;by_cases b2:z.toNat < y.toNat
    ·rw [if_pos b2] at h2;omega
    ·rw [if_pos (by omega)];decide
  ·rw [if_neg a1] at h1;by_cases a2:y.toNat < x.toNat
   ·rw [if_pos a2] at h1;omega
   ·rw [if_neg a2] at h1;by_cases b1:y.toNat < z.toNat
    ·rw [if_pos (by omega)];decide
    ·rw [if_neg b1] at h2;by_cases b2:z.toNat < y.toNat
     ·rw [if_pos b2] at h2;omega
     ·rw [if_neg b2] at h2;rw [if_neg (by omega),if_neg (by omega)];exact ih h1 h2
theorem A9z (a b c:Str)(h1:A2r a b≤0)(h2:A2r b c≤0):A2r a c≤0:=by
 by_cases e1:A2r a b=0
 ·rw [A3m] at e1;rw [e1];exact h2
 ·by_cases e2:A2r b c=0
  ·rw [A3m] at e2;rw [← e2];exact h1
  ·have:=A9k a b c (by omega) (by omega);omega
theorem F6t {α:Type} (nm:α→Str):SWO (ltOf fun x y:α=>A2r (nm x) (nm y)) where
 irrefl x:=by simp [ltOf,C3u]
 trans x y z h1 h2:=by simp only [ltOf,decide_eq_true_eq] at *;exact A9k _ _ _ h1 h2
 ntrans x y z h1 h2:=by simp only [ltOf,decide_eq_false_iff_not] at *;have a1:=A4k (nm x) (nm y);have a2:=A4k (nm y) (nm z);have a3:=A4k (nm x) (nm z);have:=A9z (nm z) (nm y) (nm x) (by omega) (by omega);omega
def A7a (l:List Sig):List Sig:=l.mergeSort fun a b=>decide (A2r a.name b.name≤0)
theorem A4r (l:List Sig):(A7a l).Perm l:=List.mergeSort_perm _ _
theorem D0a (l:List Sig):(A7a l).Pairwise fun a b=>A2r a.name b.name≤0:=by
 refine (List.pairwise_mergeSort (le:=fun a b:Sig=>decide (A2r a.name b.name≤0)) ?_ ?_ l).imp (by simp)
 ·intro a b c h1 h2;simp only [decide_eq_true_eq] at *;exact A9z _ _ _ h1 h2
 ·intro a b;have:=A4k a.name b.name;simp only [Bool.or_eq_true,decide_eq_true_eq];omega
theorem B5b {l l':List Sig} (hn:(l.map (·.name)).Nodup)(hp:l'.Perm l)(hs:l'.Pairwise fun a b=>A2r a.name b.name≤0):l'=A7a l:=by
 refine List.Perm.eq_of_pairwise (le:=fun a b:Sig=>A2r a.name b.name≤0) ?_ hs (D0a l) (hp.trans (A4r l).symm);intro a b ha hb h1 h2;have:=A4k a.name b.name;have he:a.name=b.name:=A3m.1 (by omega);have ha':a∈l:=hp.mem_iff.1 ha;have hb':b∈l:=(A4r l).mem_iff.1 hb;obtain⟨i,hi⟩:=List.getElem?_of_mem ha';obtain⟨j,hj⟩:=List.getElem?_of_mem hb';have h1:(l.map (·.name))[i]? = some a.name:=by simp [hi]
 have h2:(l.map (·.name))[j]? = some a.name:=by simp [hj,he]
 have hlt:i < (l.map (·.name)).length:=(List.getElem?_eq_some_iff.1 h1).1;have:=(List.getElem?_inj hlt hn).1 (h1.trans h2.symm);subst this;rw [hi] at hj;simpa using hj
theorem C9d {sl:SL} {bx:A0b} {dst:Option Nat} {x:Operand} {tys:List TypeId} (k:Nat)(l:List Sig)(hx:opnd sl x=.acc k)(hb:A0h bx k=some (.rows 7 (siR l)))(hn:(l.map (·.name)).Nodup)(hlen:l.length≤sm) :
  OpB prog sl bx dst (.call ⟨.value (.func 154),[x,.func 155].toArray,tys.toArray⟩) (.tuple []) ((k,.rows 7 (siR (A7a l)))::A0o k bx) []:=by
 intro o ho _ C S w β a hi ha;have hE:A1q prog 154:=(A1q.of func154 rfl (by decide));have hx1:=ha x (mC ho);rw [hx] at hx1;have hbm:=A0j hb;obtain⟨q1,q2,q3,q4,q5,q6,q7⟩:=hi.box k _ hbm;generalize hv:a.eval x=v at hx1;cases hx1;have hargsEq:(#[x,.func 155].map a.eval)++(#[]:Array Value) = #[.slice ((β k).base.map fun b=>⟨b,(β k).off*(β k).sz,none⟩) (β k).len (β k).cap,.func (.func 155) #[] #[]]:=by apply Array.ext';rw [Array.toList_append,Array.toList_map];show [a.eval x,Value.func (.func 155) #[] #[]]++[]=_;rw [hv];rfl
 have hfv:a.eval (.func 154)=.func (.func 154) #[] #[]:=rfl;refine Or.inl ?_;unfold Oper.wp;rw [A3f hE ho hfv,Oper.upon_enter];have hlen2:l.length=(β k).len:=by rw [← q2];simp [siR]
 have hcbs:([x,.func 155].toArray.map a.eval)++(#[]:Array Value) = #[.slice ((β k).base.map fun b=>⟨b,(β k).off*(β k).sz,none⟩) (β k).len (β k).cap,.func (.func 155) #[] #[]]:=hargsEq;rw [hcbs];clear hcbs hargsEq;generalize hbase:(β k).base=ob at q7;cases ob with
 | none =>
  simp only at q7;have hl0:l=[]:=List.eq_nil_of_length_eq_zero (by omega);subst hl0;rw [show (β k).len=0 by omega];refine (AnyF.slices_SortFunc_none sortS _ _ _ w).mono ?_;rintro e w' ⟨rfl,rfl⟩;refine⟨_,S,β,rfl,hi.sub fun j c hj=>?_,SExt.refl S _,.tuple [] [] rfl (by simp),fun _ _=>rfl⟩;rcases List.mem_cons.1 hj with h | h
  ·rw [h,show A7a []=[] by simp [A7a]];exact hbm
  ·exact (A0f.1 h).2
 | some b =>
  simp only at q7;obtain⟨ty,vs,hh,hcap,hrep⟩:=q7;obtain⟨n,hn0⟩:∃ n,n=l.length:=⟨_,rfl⟩
  let nm:Nat→Str:=fun i=>((l[i]?).getD default).name
  have hin:∀ i,i < n→((β k).off+i)*7+7≤vs.length:=fun i h=>by have h1:((β k).off+i+1)*7≤((β k).off+(β k).cap)*7:=Nat.mul_le_mul_right _ (by omega);omega
  let enc:Nat→List Value:=fun i=>if i < n then (vs.drop (((β k).off+i)*7)).take 7 else [sv (nm i),.int .i64 0,.int .i64 0,.int .i64 0,.int .i64 0,.int .i64 0,.int .i64 0]
  have encLen:∀ i,(enc i).length=7:=fun i=>by
   simp only [enc];split
   ·rename_i h;have:=hin i h;rw [List.length_take,List.length_drop];omega
   ·rfl
  have encGet:∀ i j,i < n→j < 7→(enc i)[j]? = vs[((β k).off+i)*7+j]?:=fun i j h hj=>by simp only [enc,if_pos h];rw [List.getElem?_take_of_lt hj,List.getElem?_drop]
  have rowAt:∀ i,i < n→∃ s,l[i]? = some s∧(siR l)[i]? = some (siC s):=fun i h=>⟨l[i]'(by omega),List.getElem?_eq_getElem _,A0n (List.getElem?_eq_getElem _)⟩;have encRep:∀ i j s v,l[i]? = some s→(enc i)[j]? = some v→∃ d,(siC s)[j]? = some d∧RepC S w d v:=fun i j s v hs he=>by
   have hi':i < n:=by have:=(List.getElem?_eq_some_iff.1 hs).1;omega
   have hj:j < 7:=by have:=(List.getElem?_eq_some_iff.1 he).1;rw [encLen] at this;exact this
   rw [encGet i j hi' hj] at he;have hsl:j < (siC s).length:=by rw [show (siC s).length=7 from rfl];exact hj
   exact⟨_,List.getElem?_eq_getElem hsl,hrep i j (siC s) _ v (A0n hs) (List.getElem?_eq_getElem hsl) he⟩
  have encOne:∀ i,∀ v∈enc i,v.oneCell'=true:=fun i v hv=>by
   by_cases h:i < n
   ·obtain⟨s,hs,hr⟩:=rowAt i h;obtain⟨j,hj⟩:=List.getElem?_of_mem hv;obtain⟨d,h1,h2⟩:=encRep i j s v hs hj;exact h2.one (q6 _ (List.mem_of_getElem? hr) d (List.mem_of_getElem? h1))
   ·simp only [enc,if_neg h,List.mem_cons,List.not_mem_nil,or_false] at hv;rcases hv with rfl | rfl | rfl | rfl | rfl | rfl | rfl <;> rfl
  have encHead:∀ i,∃ a1 a2 a3 a4 a5 a6,enc i=[sv (nm i),a1,a2,a3,a4,a5,a6]:=fun i=>by
   by_cases h:i < n
   ·obtain⟨s,hs,hr⟩:=rowAt i h;have hl:=encLen i;have h0:=encRep i 0 s
    match he:enc i,hl with
    | [v0,a1,a2,a3,a4,a5,a6],_ =>
     obtain⟨d,h1,h2⟩:=h0 v0 hs (by rw [he];rfl);have:d=.str s.name:=by simpa [siC] using h1.symm
     subst this;have:v0=sv (nm i):=by have hv0:=(RepV.d (β:=β) _ _ h2).inv_str.1;rw [hv0];simp only [nm,hs,Option.getD_some];rfl
     exact⟨a1,a2,a3,a4,a5,a6,by rw [this]⟩
   ·exact⟨.int .i64 0,.int .i64 0,.int .i64 0,.int .i64 0,.int .i64 0,.int .i64 0,by simp only [enc,if_neg h]⟩
  have hcmp:CmpLays prog 155 #[] enc 7 (fun x y=>A2r (nm x) (nm y)) b ((β k).off*7) (Array.range n).size w:=fun m os dk _ x y=>by obtain⟨a1,a2,a3,a4,a5,a6,h1⟩:=encHead x;obtain⟨b1,b2,b3,b4,b5,b6,h2⟩:=encHead y;have:=E5s (nm x) (nm y) a1 a2 a3 a4 a5 a6 b1 b2 b3 b4 b5 b6 (sortWorldK enc 7 w b ((β k).off*7) m dk os);rw [h1,h2];exact this
  have hH:HoldsK enc 7 w b ((β k).off*7) (Array.range n):=fun j hj=>by
   rw [size_flatK,Array.size_range] at hj;have hj7:j / 7 < n:=by omega
   have hfl:(flatK enc 7 (Array.range n))[j]! = (enc (j / 7))[j % 7]!:=by
    rw [get_flatK _ _ _ _ (by rw [Array.size_range];exact hj)]
    congr 2
    rw [getElem!_pos _ _ (by rw [Array.size_range];exact hj7),Array.getElem_range]
   have hlt:=hin (j / 7) hj7;have hpos:((β k).off+j / 7)*7+j % 7=(β k).off*7+j:=by omega
   have hlt2:(β k).off*7+j < vs.length:=by omega
   have hen:(enc (j / 7))[j % 7]! = vs[(β k).off*7+j]:=by have:=encGet (j / 7) (j % 7) hj7 (Nat.mod_lt _ (by decide));rw [hpos,List.getElem?_eq_getElem hlt2] at this;rw [List.getElem!_eq_getElem?_getD,this];rfl
   refine⟨?_,?_⟩
   ·simp only [World.cell?,hh,Option.isSome_none,id,hfl,hen];simp [hlt2]
   ·simp [World.frozen?,hh]
  have hbl:b < w.heap.size:=(hi.priv k _ hbm b hbase).2.1;have hS:=hi.priv k _ hbm b hbase;rw [q1,← hlen2,← hn0];have hsort:=AnyQ.slices_SortFunc sortS 7 isAgg50 sizeOf50 enc encLen encOne (fun x y=>A2r (nm x) (nm y)) (F6t nm) 155 #[] b ((β k).off*7) (β k).cap (Array.range n) w
   (enters_of func155 (by kernel_rfl) rfl) hcmp hH hbl (by rw [Array.size_range];unfold sm at hlen;omega)
  rw [Array.size_range] at hsort;refine hsort.mono ?_;rintro e w' ⟨rfl,d',m,os,hperm,hsorted,rfl⟩;obtain⟨p1,_,p3⟩:=hperm;rw [Array.size_range] at p1;have p4:d'.toList.Perm (List.range n):=by rw [show d'.extract 0 n=d' by rw [← p1];exact Array.extract_size,show (Array.range n).extract 0 n=Array.range n by have:=Array.extract_size (xs:=Array.range n);rwa [Array.size_range] at this,Array.toList_range] at p3;exact p3
  have p5:∀ i (h:i < d'.size),d'[i] < n:=fun i h=>List.mem_range.1 (p4.mem_iff.1 (Array.getElem_mem_toList h));have hl':d'.toList.map (fun i=>(l[i]?).getD default)=A7a l:=by
   refine B5b hn ?_ ?_
   ·have h1:=p4.map fun i=>(l[i]?).getD default;have h2:(List.range n).map (fun i=>(l[i]?).getD default)=l:=by
     refine List.ext_getElem? fun i=>?_;rw [List.getElem?_map];by_cases h:i < n
     ·rw [List.getElem?_range h,Option.map_some,List.getElem?_eq_getElem (by omega),Option.getD_some]
     ·rw [List.getElem?_eq_none (by simp;omega),List.getElem?_eq_none (by omega)];rfl
    rw [h2] at h1;exact h1
   ·rw [List.pairwise_map,List.pairwise_iff_getElem];intro i j hi' hj' hij;have h1:=hsorted i j (Nat.zero_le _) hij (by rw [← p1];simpa using hj');rw [getElem!_pos d' i (by simpa using hi'),getElem!_pos d' j (by simpa using hj')] at h1;simp only [ltOf,decide_eq_false_iff_not] at h1;have h2:=A4k (nm d'[i]) (nm d'[j]);have h3:¬ A2r (nm d'[j]) (nm d'[i]) < 0:=h1;have h4:A2r (nm d'[i]) (nm d'[j])≤0:=by omega
    simpa [nm] using h4
  have hps:=A4r l;have hd'l:d'.size=(A7a l).length:=by rw [← hl'];simp
  have hnew:A2h S (putRowK enc 7 (Sort.ahead w m) b ((β k).off*7) d') β (β k) (.rows 7 (siR (A7a l))):=by
   refine⟨q1,by simp only [siR,List.length_map,hps.length_eq];exact hlen2,q3,by simp only [siR,List.length_map,hps.length_eq];unfold sm lim at *;omega,?_,?_,?_⟩
   ·intro row hr;obtain⟨s,_,rfl⟩:=List.mem_map.1 hr;rfl
   ·intro row hr d hd;obtain⟨s,hs,rfl⟩:=List.mem_map.1 hr;exact q6 _ (List.mem_map.2 ⟨s,hps.mem_iff.1 hs,rfl⟩) d hd
   ·rw [hbase];refine⟨ty,(putCells id ((β k).off*7) (flatK enc 7 d') ⟨vs⟩).toList,?_,by simpa [putCells] using hcap,?_⟩
    ·simp [putRowK,putRow,mapBlock,Sort.ahead,Array.getElem?_modify,hh,onCells]
    ·intro r j row d v hr hd hv;have hrl:r < (A7a l).length:=by have:=(List.getElem?_eq_some_iff.1 hr).1;simpa [siR] using this
     have hrd:r < d'.size:=by omega
     have hrow:row=siC ((l[d'[r]]?).getD default):=by rw [← hl'] at hr;simp only [siR,List.getElem?_map,Array.getElem?_toList,Array.getElem?_eq_getElem hrd,Option.map_some,Option.some.injEq] at hr;exact hr.symm
     obtain⟨s,hs,_⟩:=rowAt _ (p5 r hrd);rw [hs,Option.getD_some] at hrow;subst hrow;have hj:j < 7:=by have:=(List.getElem?_eq_some_iff.1 hd).1;rwa [show (siC s).length=7 from rfl] at this
     have hflat:(flatK enc 7 d')[r*7+j]! = (enc d'[r])[j]!:=by rw [get_flatK _ _ _ _ (by omega),show (r*7+j) / 7=r by omega,show (r*7+j) % 7=j by omega,getElem!_pos d' r hrd]
     have hin':=hin r (by omega);have hlt:((β k).off+r)*7+j < vs.length:=by omega
     have hve:(enc d'[r])[j]? = some v:=by
      rw [Array.getElem?_toList,putCells,Array.getElem?_mapIdx] at hv;have hc:(⟨vs⟩:Array Value)[((β k).off+r)*7+j]? = some vs[((β k).off+r)*7+j]:=by simp [hlt]
      rw [hc,Option.map_some,if_pos ⟨by omega,by rw [size_flatK];omega⟩,show ((β k).off+r)*7+j - (β k).off*7=r*7+j by omega,hflat] at hv;have hje:j < (enc d'[r]).length:=by rw [encLen];exact hj
      rw [List.getElem?_eq_getElem hje];simp only [id,Option.some.injEq] at hv;rw [← hv,getElem!_pos (enc d'[r]) j hje]
     obtain⟨d2,e1,e2⟩:=encRep _ j s v hs hve;rw [e1] at hd;simp only [Option.some.injEq] at hd;subst hd;exact e2.ext ⟨fun _ h=>h,fun b' hb'=>by have hne:b≠b':=fun he=>hS.1 (he ▸ hb');simp [putRowK,putRow,mapBlock,Sort.ahead,Array.getElem?_modify,hne]⟩
  obtain⟨g1,g2⟩:=hi.setSame (w':=putRowK enc 7 (Sort.ahead w m) b ((β k).off*7) d') (c:=.rows 7 (siR (A7a l))) hbm hbase (fun b' hne=>by simp [putRowK,putRow,mapBlock,Sort.ahead,Array.getElem?_modify,Ne.symm hne]) rfl rfl rfl (by simp [putRowK,putRow,mapBlock,Sort.ahead]) hnew
  obtain⟨g3,g4⟩:=g1.grow (S':=S) (w':=Sort.grow (putRowK enc 7 (Sort.ahead w m) b ((β k).off*7) d') os) (fun _ h=>h) (fun _ h=>.inl h)
   (fun b' hb'=>by have:=g1.Slt b' hb';simp only [Sort.grow,Array.size_append];omega) (fun b' hb'=>by simp only [Sort.grow];exact Array.getElem?_append_left hb') rfl rfl rfl (by simp [Sort.grow])
  exact⟨_,S,β,rfl,g3,g2.trans g4,.tuple [] [] rfl (by simp),fun _ _=>rfl⟩
open Go Go.Proofs Tryz
theorem C5g (s:Sig)(vars:List Str)(args:List Ty):(s.canon.subst vars args).name=s.name:=rfl
theorem C1o (vars:List Str)(args:List Ty)(l:List Sig):∀ j,j≤l.length→((A9b vars args l j).map (·.name)).Nodup∧∀ n,n∈(A9b vars args l j).map (·.name)→∃ y,y∈l.take j∧y.name=n
 | 0,_=>by simp [A9b]
 | j+1,h=>by
  obtain⟨h1,h2⟩:=C1o vars args l j (by omega);have ht:l.take (j+1)=l.take j++[l[j]]:=by rw [List.take_add_one,List.getElem?_eq_getElem (by omega)];rfl
  rw [B7d (by omega) ht,ht];split
  ·rename_i hn;simp only [D7k,decide_eq_true_eq] at hn;rw [List.map_append,List.nodup_append];refine⟨⟨h1,by simp,?_⟩,?_⟩
   ·rintro a ha b hb rfl;simp only [List.map_cons,List.map_nil,List.mem_cons,List.not_mem_nil,or_false] at hb;obtain⟨y,hy,he⟩:=h2 a ha;exact hn y hy (he.trans hb)
   ·intro n hm;rcases List.mem_append.1 hm with hm | hm
    ·obtain⟨y,hy,he⟩:=h2 n hm;exact⟨y,List.mem_append.2 (.inl hy),he⟩
    ·simp only [List.map_cons,List.map_nil,List.mem_cons,List.not_mem_nil,or_false] at hm;exact⟨l[j],List.mem_append.2 (.inr (by simp)),hm.symm⟩
  ·rw [List.append_nil];exact⟨h1,fun n hm=>by obtain⟨y,hy,he⟩:=h2 n hm;exact⟨y,List.mem_append.2 (.inl hy),he⟩⟩
theorem B4m (p:Prog)(x:Ty):∀ j,j≤p.decls.length→((A5y p x j).map (·.name)).Nodup∧∀ n,n∈(A5y p x j).map (·.name)→∃ i,i < j∧B0q p x n=(i:Nat)
 | 0,_=>by simp [A5y]
 | j+1,h=>by
  obtain⟨h1,h2⟩:=B4m p x j (by omega);have ht:p.decls.take (j+1)=p.decls.take j++[p.decls[j]]:=by rw [List.take_add_one,List.getElem?_eq_getElem (by omega)];rfl
  rw [B8d (by omega) ht];split
  ·rename_i hn;simp only [B2k,Bool.and_eq_true,decide_eq_true_eq] at hn;rw [List.map_append,List.nodup_append];refine⟨⟨h1,by simp,?_⟩,?_⟩
   ·rintro a ha b hb rfl;simp only [List.map_cons,List.map_nil,List.mem_cons,List.not_mem_nil,or_false] at hb;obtain⟨i,hi,he⟩:=h2 a ha;rw [hb,C5g,hn.2] at he;omega
   ·intro n hm;rcases List.mem_append.1 hm with hm | hm
    ·obtain⟨i,hi,he⟩:=h2 n hm;exact⟨i,by omega,he⟩
    ·simp only [List.map_cons,List.map_nil,List.mem_cons,List.not_mem_nil,or_false] at hm;exact⟨j,by omega,by rw [hm,C5g];exact hn.2⟩
  ·rw [List.append_nil];exact⟨h1,fun n hm=>by obtain⟨i,hi,he⟩:=h2 n hm;exact⟨i,by omega,he⟩⟩
def C7a (p:Prog)(env:List Formal)(x:Ty):List Sig:=if A1w p ((A1i env x).getD x) 2=true then A4h p ((A1i env x).getD x) else if (A1i env x).isSome=true then [] else A5y p ((A1i env x).getD x) p.decls.length
def A3o (p:Prog)(env:List Formal)(x:Ty):List Sig:=A7a (C7a p env x)
theorem B2h (p:Prog)(x:Ty):((A4h p x).map (·.name)).Nodup:=by
 unfold A4h;split
 ·exact (C1o _ _ _ _ (Nat.le_refl _)).1
 ·simp
theorem B2o (p:Prog)(h:p.Sm)(x:Ty):(A4h p x).length≤sm:=by
 unfold A4h;split
 ·rename_i hi;obtain⟨d,hd,_⟩:=A3n (by decide) hi;rw [hd,Option.getD_some];exact Nat.le_trans (C0o _ _ _ _) (h.decls.2 d (A3d hd)).sigs.1
 ·simp
theorem D0j {env:List Formal} {x y:Ty} (he:∀ f,f∈env→f.Sm)(h:A1i env x=some y):y.Sm:=by
 unfold A1i at h;split at h
 ·simp at h
 ·rw [Option.map_eq_some_iff] at h;obtain⟨f,hf,rfl⟩:=h;exact (he f (List.mem_of_getElem? hf)).bound
abbrev q1S:List Nat:=[0,1,2,5,6,7,8,9,10,17,22,30,33]
theorem D3z (p:Prog)(h:p.Sm)(env:List Formal)(hel:env.length≤sm)(he:∀ f,f∈env→f.Sm)(x:Ty)(hx:x.Sm):A0a prog 75 [.dptr (B0u p) 0,.d (.slice (foR env)),tyV x] (.d (.slice (siR (A3o p env x)))):=by
 have hb:=D9t env x hel he;unfold A3o C7a;have hlp:=h.decls.1;have hbs:∀ y,A1i env x=some y→y.Sm:=fun y=>D0j he;generalize A1i env x=o at *;cases o with
 | some y =>
  have hy:=hbs y rfl;simp only [G3f] at hb;simp only [Option.getD_some,Option.isSome_some,if_true];have hsp:=B2i p h y hy;have hnd:=B2h p y;have hln:=B2o p h y;have hsn:A1w p y 2=false→A4h p y=[]:=fun hf=>by unfold A4h;rw [if_neg (by rw [hf];decide)]
  rw [show (if A1w p y 2=true then A4h p y else [])=A4h p y by cases hf:A1w p y 2 with | false=>rw [if_neg (by decide),hsn hf] | true=>rw [if_pos rfl]];generalize A1w p y 2=bb at *;refine cB func75 ?_;refine sR q1S ?_;refine sC hb q1S ?_;refine kR q1S fun K1 u1=>?_;refine AWp.tt rfl ?_
  (refine lV q1S fun K z=>?_;apply z;clear z K;try simp only [A0c,])
  refine u1 _ _ ?_;clear u1 K1
  (refine AWp.seqR q1S [22] (by decide +kernel) fun K z=>?_;refine ev ?_;refine⟨_,_,_,_,_,rfl,hsp,?_⟩;(try refine ev ?_);apply z;clear z K)
  refine sK fun K1 u1=>?_;have fin:∀ sl bx,A0k sl 9=.acc 22→A0h bx 22=some (.rows 7 (siR (A4h p y)))→K1 sl bx:=fun sl bx g1 g2=>by
   refine u1 _ _ ?_;refine AWp.ww (sl':=[(9,.acc 22)]) (bx':=[(22,.rows 7 (siR (A4h p y)))]) (by simp [sle,vle,g1]) (by simp [ble,g2]) ?_
   (refine AWp.seqR q1S [800035] (by decide +kernel) fun K z=>?_;refine ev ?_;refine⟨_,_,_,C9d 22 (A4h p y) rfl rfl hnd hln,?_⟩;(try refine ev ?_);apply z;clear z K)
   refine sR q1S ?_;exact aR
  cases bb
  ·refine sR q1S ?_;refine AWp.ff rfl (AWp.kk (fin _ _ rfl rfl))
  ·refine sR q1S ?_;refine AWp.ff rfl (AWp.kk (fin _ _ rfl rfl))
 | none =>
  simp only [Option.getD_none,Option.isSome_none,if_neg (show ¬ (false=true) by decide)];simp only [G3f] at hb;have hsp:=B2i p h x hx;have hmt:=D8h p h x hx;have hnd:=B2h p x;have hln:=B2o p h x;have hnd2:=(B4m p x p.decls.length (Nat.le_refl _)).1;have hln2:=Nat.le_trans (B1q p x p.decls.length) hlp;generalize A1w p x 2=bb at *;refine cB func75 ?_;refine sR q1S ?_;refine sC hb q1S ?_;refine kR q1S fun K1 u1=>?_;refine AWp.ff rfl (AWp.kk (u1 _ _ ?_));clear u1 K1
  (refine AWp.seqR q1S [22] (by decide +kernel) fun K z=>?_;refine ev ?_;refine⟨_,_,_,_,_,rfl,hsp,?_⟩;(try refine ev ?_);apply z;clear z K)
  refine sK fun K1 u1=>?_;cases bb
  ·refine sR q1S ?_;refine AWp.tt rfl ?_
   (refine AWp.lastR q1S [33] (by decide +kernel) fun K z=>?_;refine ev ?_;refine⟨_,_,_,_,_,rfl,hmt,?_⟩;(try refine ev ?_);apply z;clear z K;try simp only [A0c,])
   refine u1 _ _ ?_;rw [if_neg (by decide)]
   (refine AWp.seqR q1S [800035] (by decide +kernel) fun K z=>?_;refine ev ?_;refine⟨_,_,_,C9d 33 (A5y p x p.decls.length) rfl rfl hnd2 hln2,?_⟩;(try refine ev ?_);apply z;clear z K)
   refine sR q1S ?_;exact aR
  ·refine sR q1S ?_;refine AWp.ff rfl (AWp.kk (u1 _ _ ?_));rw [if_pos rfl]
   (refine AWp.seqR q1S [800035] (by decide +kernel) fun K z=>?_;refine ev ?_;refine⟨_,_,_,C9d 22 (A4h p x) rfl rfl hnd hln,?_⟩;(try refine ev ?_);apply z;clear z K)
   refine sR q1S ?_;exact aR
def G1e (m:List Sig)(i j:Nat):Prop:=∀ (a b:Nat)(s t:Sig),a < b→b≤i→b≠j→m[a]? = some s→m[b]? = some t→A2r s.name t.name≤0
def D7n (m:List Sig)(j:Nat)(s t:Sig):List Sig:=(m.set j s).set (j - 1) t
theorem D2a {m:List Sig} {j:Nat} {s t:Sig} (hj:0 < j)(hs:m[j - 1]? = some s)(ht:m[j]? = some t)(a:Nat) :
  (D7n m j s t)[a]? = if a=j - 1 then some t else if a=j then some s else m[a]?:=by
 have h1:=(List.getElem?_eq_some_iff.1 hs).1;have h2:=(List.getElem?_eq_some_iff.1 ht).1;unfold D7n;rw [List.getElem?_set,List.getElem?_set];by_cases a1:a=j - 1
 ·subst a1;simp;omega
 ·by_cases a2:a=j
  ·subst a2;simp [a1,Ne.symm a1,h2]
  ·simp [a1,a2,Ne.symm a1,Ne.symm a2]
theorem E4e {m:List Sig} {j:Nat} {s t:Sig} (hj:0 < j)(hs:m[j - 1]? = some s)(ht:m[j]? = some t):(D7n m j s t).Perm m:=by
 have h1:=(List.getElem?_eq_some_iff.1 hs);have h2:=(List.getElem?_eq_some_iff.1 ht);obtain⟨a1,rfl⟩:=h1;obtain⟨a2,rfl⟩:=h2;have e1:m=m.take (j - 1)++m[j - 1]::m[j]::m.drop (j+1):=by
  conv=>lhs;rw [← List.take_append_drop (j - 1) m]
  rw [List.drop_eq_getElem_cons a1]
  congr 2
  have:j - 1+1=j:=by omega
  rw [this,List.drop_eq_getElem_cons a2]
 have e2:D7n m j m[j - 1] m[j]=m.take (j - 1)++m[j]::m[j - 1]::m.drop (j+1):=by
  refine List.ext_getElem? fun a=>?_;rw [D2a hj hs ht];have hl:(m.take (j - 1)).length=j - 1:=by rw [List.length_take];omega
  by_cases b1:a < j - 1
  ·rw [if_neg (by omega),if_neg (by omega),List.getElem?_append_left (by omega),List.getElem?_take_of_lt b1]
  ·rw [List.getElem?_append_right (by omega),hl];obtain⟨c,rfl⟩:∃ c,a=j - 1+c:=⟨a - (j - 1),by omega⟩;rw [show j - 1+c - (j - 1)=c by omega]
   match c with
   | 0=>simp
   | 1=>rw [if_neg (by omega),if_pos (by omega)];simp
   | c+2 =>
    rw [if_neg (by omega),if_neg (by omega)];simp only [List.getElem?_cons_succ,List.getElem?_drop]
    congr 1;omega
 rw [e2]
 conv=>rhs;rw [e1]
 exact List.Perm.append_left _ (List.Perm.swap ..)
theorem G1e.step {m:List Sig} {i j:Nat} {s t:Sig} (h:G1e m i j)(hj:0 < j)(hji:j≤i)(hs:m[j - 1]? = some s)(ht:m[j]? = some t)(hlt:A2r t.name s.name < 0):G1e (D7n m j s t) i (j - 1):=by
 intro a b u v hab hbi hbj hu hv;rw [D2a hj hs ht] at hu hv;rw [if_neg hbj] at hv;by_cases b1:b=j
 ·subst b1;simp only [if_true,Option.some.injEq] at hv;subst hv;by_cases a1:a=b - 1
  ·rw [if_pos a1] at hu;simp only [Option.some.injEq] at hu;subst hu;omega
  ·rw [if_neg a1,if_neg (by omega)] at hu;exact h a (b - 1) u s (by omega) (by omega) (by omega) hu hs
 ·rw [if_neg b1] at hv;by_cases a1:a=j - 1
  ·rw [if_pos a1] at hu;simp only [Option.some.injEq] at hu;subst hu;exact h j b t v (by omega) hbi (by omega) ht hv
  ·rw [if_neg a1] at hu;by_cases a2:a=j
   ·rw [if_pos a2] at hu;simp only [Option.some.injEq] at hu;subst hu;exact h (j - 1) b s v (by omega) hbi (by omega) hs hv
   ·rw [if_neg a2] at hu;exact h a b u v hab hbi b1 hu hv
def F7k (m:List Sig)(i:Nat):Prop:=∀ (a b:Nat)(s t:Sig),a < b→b < i→m[a]? = some s→m[b]? = some t→A2r s.name t.name≤0
theorem F7k.start {m:List Sig} {i:Nat} (h:F7k m i):G1e m i i:=fun a b s t hab hbi hbj hs ht=>h a b s t hab (by omega) hs ht
theorem G1e.done {m:List Sig} {i j:Nat} (h:G1e m i j)(hd:j=0∨∃ s t,m[j - 1]? = some s∧m[j]? = some t∧A2r s.name t.name≤0):F7k m (i+1):=by
 intro a b s t hab hbi hs ht;by_cases hbj:b=j
 ·subst hbj;rcases hd with h0 | ⟨u,v,hu,hv,hc⟩
  ·omega
  ·rw [hv] at ht;simp only [Option.some.injEq] at ht;subst ht;by_cases a1:a=b - 1
   ·subst a1;rw [hu] at hs;simp only [Option.some.injEq] at hs;subst hs;exact hc
   ·exact A9z _ _ _ (h a (b - 1) s u (by omega) (by omega) (by omega) hs hu) hc
 ·exact h a b s t hab (by omega) hbj hs ht
theorem F7k.sorted {m l:List Sig} (hn:(l.map (·.name)).Nodup)(hp:m.Perm l)(h:F7k m m.length):m=A7a l:=by refine B5b hn hp ?_;rw [List.pairwise_iff_getElem];intro i j hi hj hij;exact h i j _ _ hij hj (List.getElem?_eq_getElem hi) (List.getElem?_eq_getElem hj)
theorem G0d (m:List Sig)(j:Nat)(s:Sig):siR (m.set j s)=(siR m).set j (siC s):=by simp only [siR,List.map_set]
theorem AWp.rekey {ro:Option Nat} {P:Program} {n:Nat} {Q:Exit→SL→A0b→Prop} {sl:SL} {bx:A0b} {c:Code} (t k k' sz:Nat)(rs:List (List D))(hk':k'≤999999)
  (hx:(A0k sl t=.acc k∧A0h bx k=some (.rows sz rs))∨(A0k sl t=.d .nil∧rs=[])) (h:AWp ro P n c Q [(t,.acc k')] [(k',.rows sz rs)]):AWp ro P n c Q sl bx:=by
 rcases hx with ⟨h1,h2⟩ | ⟨h1,rfl⟩
 ·intro C S w β a hs;have hm:=A0j h2;obtain⟨b1,b2⟩:=And.intro (hs.inv.box k _ hm) (hs.inv.priv k _ hm);refine h C S w (upd β k' (β k)) a ⟨?_,hs.size,hs.defers,fun u=>?_⟩
  ·refine hs.inv.step (SExt.refl S w) (fun b hb=>.inl hb) hs.inv.Slt (fun b _ _=>rfl) rfl rfl rfl (Nat.le_refl _) ?_ ?_ (fun j hj=>A3z (by omega)) ?_
   ·intro j c hj;simp only [List.mem_cons,Prod.mk.injEq,List.not_mem_nil,or_false] at hj;obtain⟨rfl,rfl⟩:=hj;rw [A0x];exact⟨A2h.ext (c:=.rows sz rs) b1 (SExt.refl _ _) (fun _ _=>rfl) (by simp [BoxC.has]),fun b hb=>⟨(b2 b hb).1,(b2 b hb).2.1,.inr ⟨k,_,hm,hb⟩⟩⟩
   ·intro j c j' c' hj hj' b _ _;simp only [List.mem_cons,Prod.mk.injEq,List.not_mem_nil,or_false] at hj hj';exact⟨hj.1.trans hj'.1.symm,hj.2.trans hj'.2.symm⟩
   ·intro j Y st hj;simp at hj
  ·simp only [A0k];split
   ·rename_i he;subst he;have hv:=hs.slot t;rw [h1] at hv;generalize a.tmps.getD t undef=v at hv;cases hv;have:=RepV.acc (S:=S) (w:=w) (β:=upd β k' (β k)) k';rw [A0x] at this;exact this
   ·exact .undef _
 ·refine AWp.pp k' sz t h1 ?_ hk';exact AWp.ww sS sB h
abbrev q1T:List Nat:=[0,1,2,3,5,6,7,8,9,10,11,16,24,27,29,32,36,56]
theorem B4t (p:Prog)(h:p.Sm)(env:List Formal)(hel:env.length≤sm)(he:∀ f,f∈env→f.Sm)(x:Ty)(hx:x.Sm):A0a prog 31 [prV p,.d (.slice (foR env)),tyV x] (.d (.slice (siR (A3o p env x)))):=by
 have hfi:=A6z env x hel;have hlp:=h.decls.1;unfold A3o;have hU:C7a p env x=C7a p env x:=rfl;generalize hl:C7a p env x=l at hU ⊢;clear hU;have hnd:(l.map (·.name)).Nodup:=by
  rw [← hl];unfold C7a;split
  ·exact B2h _ _
  ·split
   ·simp
   ·exact (B4m _ _ _ (Nat.le_refl _)).1
 have hln:l.length≤sm:=by
  rw [← hl];unfold C7a;split
  ·exact B2o p h _
  ·split
   ·simp
   ·exact Nat.le_trans (B1q ..) hlp
 have hy:((A1i env x).getD x).Sm:=by
  cases hb:A1i env x with
  | none=>exact hx
  | some y=>exact D0j he hb
 have hbv:(A1i env x).isSome = !decide (A3u env x < 0):=by
  unfold A1i;split
  ·rename_i h0;simp [h0]
  ·rename_i h0;obtain⟨f,hf,_⟩:=B2j h0;simp [hf,h0]
 have hbd:¬ A3u env x < 0→∃ f,env[(A3u env x).toNat]? = some f∧(A3u env x).toNat < env.length∧(A1i env x).getD x=f.bound:=fun h0=>by obtain⟨f,h1,h2,_⟩:=B2j h0;exact⟨f,h1,h2,by unfold A1i;rw [if_neg h0,h1];rfl⟩
 have hbn:A3u env x < 0→(A1i env x).getD x=x:=fun h0=>by unfold A1i;rw [if_pos h0];rfl
 unfold C7a at hl;rw [hbv] at hl;generalize (A1i env x).getD x=y at *;generalize A3u env x=k at *;have hin:=A2o p y 2;have hsp:=F1y p h y hy;have hmt:=D5t p h y hy;refine cB func31 ?_;refine sR q1T ?_;refine sR q1T ?_;refine sC hfi q1T ?_;refine sK fun K1 u1=>?_;have mid:∀ sl bx,A0k sl 3=.box 3 0→A0k sl 5=.box 5 0→A0k sl 7=.d .nil→A0k sl 8=A0g k→A0h bx 3=some (.cells ((prC p).map .d))→A0h bx 5=some (.cells ((tyC y).map .d))→K1 sl bx:=fun sl bx g1 g2 g3 g4 g5 g6=>by
  refine u1 _ _ ?_;refine AWp.ww (sl':=[(3,.box 3 0),(5,.box 5 0),(7,.d .nil),(8,A0g k)]) (bx':=[(3,.cells ((prC p).map .d)),(5,.cells ((tyC y).map .d))]) (by simp [sle,vle,g1,g2,g3,g4]) (by simp [ble,g5,g6]) ?_;clear u1 K1 g1 g2 g3 g4 g5 g6;refine sK fun K2 u2=>?_;have fin:∀ q sl bx,(A0k sl 7=.acc q∧A0h bx q=some (.rows 7 (siR l)))∨(A0k sl 7=.d .nil∧siR l=[])→K2 sl bx:=fun q sl bx g=>by
   refine u2 _ _ ?_;refine AWp.rekey 7 q 27 7 (siR l) (by decide) g ?_;clear u2 K2;refine kR q1T fun K3 u3=>?_;refine AWp.bb (AWp.loop (X:=List Sig × Nat) (fun z=>[(7,.acc 27),(9,A0g z.2)]) (fun z=>[(27,.rows 7 (siR z.1))])
    (fun z=>z.1.Perm l∧z.2≤l.length∧F7k z.1 z.2) (fun z=>l.length - z.2) (l,0) ⟨List.Perm.refl _,Nat.zero_le _,by intro a b s t _ h;omega⟩ sS sB ?_)
   rintro⟨m,i⟩ ⟨hm,hil,ho⟩;simp only at hm hil ho ⊢;have hml:=hm.length_eq;refine sK fun K4 u4=>?_;by_cases hlt:(i:Int) < (m.length:Int)
   ·refine sR1 hlt q1T ?_;refine gI u4 ?_;clear u4 K4;refine sK fun K5 u5=>?_;refine AWp.bb ?_;refine sR q1T ?_;refine AWp.bb (AWp.loop (X:=List Sig × Nat) (fun z=>[(7,.acc 27),(9,A0g i),(10,A0g z.2)]) (fun z=>[(27,.rows 7 (siR z.1))])
     (fun z=>z.1.Perm l∧z.2≤i∧G1e z.1 i z.2) (fun z=>z.2) (m,i) ⟨hm,Nat.le_refl _,ho.start⟩ sS sB ?_)
    rintro⟨m,j⟩ ⟨hm,hji,hI⟩;simp only at hm hji hI ⊢;have hml:=hm.length_eq;have out:F7k m (i+1)→∀ sl bx,A0k sl 7=.acc 27→A0k sl 9=A0g i→A0h bx 27=some (.rows 7 (siR m))→K5 sl bx:=fun hO sl bx g1 g2 g3=>by refine u5 _ _ ?_;refine AWp.ww (sl':=[(7,.acc 27),(9,A0g i)]) (bx':=[(27,.rows 7 (siR m))]) (by simp [sle,vle,g1,g2]) (by simp [ble,g3]) ?_;refine lT q1T ?_;exact⟨(m,i+1),⟨hm,by simp only;omega,hO⟩,by simp only;omega,sS,by simp [ble,A0h]⟩
    refine sK fun K6 u6=>?_;by_cases hj0:j=0
    ·have hjn:¬ (0:Int) < (j:Int):=by omega
     (refine sG q1T [] 14 [] fun K z=>?_;refine ev1 hjn ?_;apply z;clear z K)
     refine AWp.ss rfl ?_;simp only [TB];exact out (hI.done (.inl hj0)) _ _ rfl rfl rfl
    ·have hjp:(0:Int) < (j:Int):=by omega
     obtain⟨t,ht⟩:∃ t,m[j]? = some t:=⟨_,List.getElem?_eq_getElem (by omega)⟩;obtain⟨s,hs⟩:∃ s,m[j - 1]? = some s:=⟨_,List.getElem?_eq_getElem (by omega)⟩;have hrt:=A0n ht;have hrs:=A0n hs;have e1:(j:Int) - 1=((j - 1:Nat):Int):=by omega
     have hcs:=A9f t.name s.name
     (refine sG q1T [] 14 [] fun K z=>?_;simp -implicitDefEqProofs only [EV,Nat.reduceAdd,Nat.reduceEqDiff,TF9,C8q,B6e,hjp,e1,hrt,hrs,siC,];refine⟨by omega,by omega,?_⟩;(try simp -implicitDefEqProofs only [EV,forall_const,implies_true,Nat.reduceAdd,Nat.reduceEqDiff,Nat.reduceBEq,Nat.reduceLeDiff,Nat.reduceSub,Nat.reduceMul,Int.reduceEq,Int.reduceLT,Int.reduceLE,Int.reduceSub,Int.reduceAdd,Int.reduceToNat,reduceCtorEq,Int.reduceNeg,TF3,TF4,TF9,A6s,B9o,C3x,C8q,B6e,B0g,hjp,e1,hrt,hrs,siC,List.getElem?_cons_zero,Option.map_some]);refine⟨by first | (unfold InR;omega) | (simp only [InR,sm] at *;omega),?_⟩;(try simp -implicitDefEqProofs only [EV,forall_const,implies_true,Nat.reduceAdd,Nat.reduceEqDiff,Nat.reduceBEq,Nat.reduceLeDiff,Nat.reduceSub,Nat.reduceMul,Int.reduceEq,Int.reduceLT,Int.reduceLE,Int.reduceSub,Int.reduceAdd,Int.reduceToNat,reduceCtorEq,Int.reduceNeg,TF3,TF4,TF9,A6s,B9o,C3x,C8q,B6e,B0g,hjp,e1,hrt,hrs,siC,List.getElem?_cons_zero,Option.map_some]);refine⟨by omega,by omega,?_⟩;(try simp -implicitDefEqProofs only [EV,forall_const,implies_true,Nat.reduceAdd,Nat.reduceEqDiff,Nat.reduceBEq,Nat.reduceLeDiff,Nat.reduceSub,Nat.reduceMul,Int.reduceEq,Int.reduceLT,Int.reduceLE,Int.reduceSub,Int.reduceAdd,Int.reduceToNat,reduceCtorEq,Int.reduceNeg,TF3,TF4,TF9,A6s,B9o,C3x,C8q,B6e,B0g,hjp,e1,hrt,hrs,siC,List.getElem?_cons_zero,Option.map_some]);refine cc hcs ?_;apply z;clear z K)
     refine AWp.cond rfl (fun hc=>?_) (fun hc=>?_)
     ·have hlt2:A2r t.name s.name < 0:=by simpa using hc
      refine AWp.kk (u6 _ _ ?_);clear u6 K6 out;refine sK fun K7 u7=>?_;refine AWp.bb ?_
      (refine sQ q1T fun K z=>?_;simp -implicitDefEqProofs only [EV,Nat.reduceAdd,Nat.reduceEqDiff,Nat.reduceBEq,Nat.reduceLeDiff,reduceCtorEq,C8q,B6e,hrt,siC,];refine⟨by omega,by omega,?_⟩;(try simp -implicitDefEqProofs only [EV,forall_const,implies_true,Nat.reduceAdd,Nat.reduceEqDiff,Nat.reduceBEq,Nat.reduceLeDiff,Nat.reduceSub,Nat.reduceMul,Int.reduceEq,Int.reduceLT,Int.reduceLE,Int.reduceSub,Int.reduceAdd,Int.reduceToNat,reduceCtorEq,Int.reduceNeg,TF3,TF4,TF9,A6s,B9o,C3x,C8q,B6e,B0g,hrt,siC,List.getElem?_cons_zero,Option.map_some]);apply z;clear z K)
      have hrj:((siR m).set j (siC s))[j - 1]? = some (siC s):=by rw [List.getElem?_set_ne (by omega)];exact hrs
      (refine sQ q1T fun K z=>?_;refine ev3 e1 hrt hrs ?_;refine⟨by unfold InR;unfold sm at hln;omega,by omega,by omega,by omega,by omega,_,siC s,rfl,rfl,by simp,?_⟩;(try refine ev ?_);apply z;clear z K)
      (refine lQ q1T fun K z=>?_;simp -implicitDefEqProofs only [EV,Nat.reduceAdd,Nat.reduceEqDiff,reduceCtorEq,C8q,B6e,e1,List.length_set];refine⟨by unfold InR;unfold sm at hln;omega,by omega,by omega,siC s,siC t,hrj,rfl,by simp [siC],?_⟩;(try refine ev ?_);apply z;clear z K;try simp only [A0c,A0e])
      refine u7 _ _ ?_;clear u7 K7
      (refine lQ q1T fun K z=>?_;refine ev1 e1 ?_;refine⟨by unfold InR;unfold sm at hln;omega,?_⟩;(try refine ev1 e1 ?_);apply z;clear z K;try simp only [A0c,])
      exact⟨(D7n m j s t,j - 1),⟨(E4e (by omega) hs ht).trans hm,by simp only;omega,hI.step (by omega) hji hs ht hlt2⟩,by simp only;omega,sS,by simp [ble,A0h,D7n,G0d,siC]⟩
     ·have hge:A2r s.name t.name≤0:=by
       have:=A4k t.name s.name;have:¬ A2r t.name s.name < 0:=by simpa using hc
       omega
      refine AWp.xx ?_;simp only [TB];exact out (hI.done (.inr ⟨s,t,hs,ht,hge⟩)) _ _ rfl rfl rfl
   ·have:i=l.length:=by omega
    subst this;refine sR1 hlt q1T ?_;refine AWp.ss rfl ?_;simp only [TB];refine u3 _ _ ?_;have hms:m=A7a l:=(show F7k m m.length by rw [hml];exact ho).sorted hnd hm;subst hms;refine sR q1T ?_;exact aR
  by_cases hi2:A1w p y 2=true
  ·rw [hi2] at hin;rw [if_pos hi2] at hl;subst hl;refine sC hin q1T ?_;refine AWp.tt rfl ?_
   (refine AWp.lastR q1T [27] (by decide +kernel) fun K z=>?_;refine ev ?_;refine⟨_,_,_,_,_,rfl,hsp hi2,?_⟩;(try refine ev ?_);apply z;clear z K;try simp only [A0c,])
   exact fin 27 _ _ (.inl ⟨rfl,rfl⟩)
  ·rw [if_neg hi2] at hl;rw [Bool.not_eq_true] at hi2;rw [hi2] at hin;refine sC hin q1T ?_;refine AWp.ff rfl ?_;by_cases hk:k < 0
   ·rw [if_neg (by simp [hk])] at hl;subst hl;refine sR1 hk q1T ?_;refine AWp.tt rfl ?_
    (refine AWp.lastR q1T [32] (by decide +kernel) fun K z=>?_;refine ev ?_;refine⟨_,_,_,_,_,rfl,hmt,?_⟩;(try refine ev ?_);apply z;clear z K;try simp only [A0c,])
    exact fin 32 _ _ (.inl ⟨rfl,rfl⟩)
   ·rw [if_pos (by simp [hk])] at hl;subst hl;refine sR1 hk q1T ?_;exact AWp.ff rfl (AWp.kk (fin 27 _ _ (.inr ⟨rfl,rfl⟩)))
 by_cases hk:k < 0
 ·have hk':¬ k ≥ 0:=by omega
  have:=hbn hk;subst this;refine sR1 hk' q1T ?_;exact AWp.ff rfl (AWp.kk (mid _ _ rfl rfl rfl rfl rfl rfl))
 ·have hk':k ≥ 0:=by omega
  obtain⟨f,h1,h2,h3⟩:=hbd hk;subst h3;refine sR1 hk' q1T ?_;refine AWp.tt rfl ?_
  (refine lV q1T fun K z=>?_;refine ci (A0v h1) ?_;apply z;clear z K;try simp only [A0c,])
  exact mid _ _ rfl rfl rfl rfl rfl rfl
def A3j (l:List Sig)(nm:Str):Int:=B0h (fun s=>decide (s.name=nm)) l
theorem F5b (nm:Str)(s:Sig):A0a prog 218 [siV s,.dptr [.str nm] 0] (A0m (decide (s.name=nm))):=by refine cB func218 ?_;refine sR [0,1,2,3] ?_;refine sR [0,1,2,3] ?_;exact aR
def D6a:Sig:=⟨[],[],[],.mk [] [] 0,0⟩
def D7m (l:List Sig)(nm:Str):SV:=if A3j l nm < 0 then .tuple [siV D6a,A0m false] else .tuple [siV ((l[(A3j l nm).toNat]?).getD D6a),A0m true]
abbrev q1U:List Nat:=[0,1,3,4,5,6,11]
theorem F2c (l:List Sig)(hl:l.length≤sm)(nm:Str):A0a prog 166 [.d (.slice (siR l)),A2d nm] (D7m l nm):=by
 have hi:=C9j 218 [.dptr [.str nm] 0] (fun _=>rfl) (fun s=>decide (s.name=nm)) l hl (fun s _=>F5b nm s);have hc:=A2w (fun s:Sig=>decide (s.name=nm)) l;unfold D7m A3j;generalize B0h (fun s:Sig=>decide (s.name=nm)) l=k at *;refine cB func166 ?_;refine sR q1U ?_;refine AWp.zz 3 rfl rfl ?_;refine AWp.ww (sl':=[(0,.d (.slice (siR l))),(3,.dptr [.str nm] 0),(4,.box 4 0),(5,A0m false)]) (bx':=[(4,.cells si0)])
  (by simp [B1e,SV.sub,sle,vle,A0k]) (by simp [A9n,BoxC.sub,SV.subL,SV.sub,ble,A0h,A0o]) ?_
 refine sC hi q1U ?_;rcases hc with ⟨rfl,_⟩ | ⟨j,s,rfl,hs,_⟩
 ·refine kR q1U fun K1 u1=>?_;refine tI ?_;refine sR q1U ?_;exact aR
 ·have hge:¬ (j:Int) < 0:=by omega
  rw [if_neg hge];simp only [Int.toNat_natCast,hs,Option.getD_some];refine kR1 hge q1U fun K1 u1=>?_;refine kI u1 ?_
  (refine sV q1U fun K z=>?_;refine ci (A0n hs) ?_;apply z;clear z K)
  exact aR
def F6r (l:List Sig)(w:Sig):Bool:=if A3j l w.name < 0 then true else !A6i ((l[(A3j l w.name).toNat]?).getD D6a).canon w.canon
def A7k (l m:List Sig):List Str:=(m.filter (F6r l)).map (·.name)
theorem C6d {l m:List Sig} {j:Nat} {d:Sig} (ht:m.take (j+1)=m.take j++[d]):A7k l (m.take (j+1))=A7k l (m.take j)++if F6r l d=true then [d.name] else []:=by
 unfold A7k;rw [ht,List.filter_append,List.map_append]
 congr 1
 simp only [List.filter_cons,List.filter_nil];split <;> rfl
theorem D2n (l m:List Sig)(j:Nat):(A7k l (m.take j)).length≤j:=by unfold A7k;rw [List.length_map];exact Nat.le_trans (List.length_filter_le ..) (by rw [List.length_take];omega)
theorem G4a (l m:List Str):A2x (l++m)=A2x l++A2x m:=by simp [A2x]
abbrev q2U:List Nat:=[0,1,4,5,7,8,9,10,11,12,13,30]
theorem E4f (l m:List Sig)(hl:l.length≤sm)(hm:m.length≤sm)(hs:∀ s,s∈l→s.Sm)(ht:∀ s,s∈m→s.Sm):A0a prog 192 [.d (.slice (siR l)),.d (.slice (siR m))] (A1m (A7k l m)):=by
 refine cB func192 ?_;refine sR q2U ?_;refine sR q2U ?_;refine AWp.pp 5 1 5 rfl ?_;refine kR q2U fun K1 u1=>?_;refine AWp.bb (AWp.ii m (X:=Unit) (fun j _=>[(0,.d (.slice (siR l))),(5,.acc 5),(10,.d (.slice (siR m))),(11,A0g m.length),(12,A0g j)]) (fun j _=>[(5,.rows 1 (A2x (A7k l (m.take j))))])
  (fun j _=>True) () trivial sS (by simp [ble,A0h,A7k,A2x]) ?_ ?_)
 ·intro _ _;rw [List.take_length];refine sR1 Int.lt_irrefl q2U ?_;refine AWp.stop rfl ?_;simp only [TB];refine u1 _ _ ?_;refine sR q2U ?_;exact aR
 ·intro j _ d hd hmem dp tk hlt _;have hlen:=D2n l m j;have hsucc:=C6d (l:=l) tk;have hpk:=F2c l hl d.name;have hdm:=ht d hmem;have hal:∀ e,e∈l→A0a prog 226 [siV e,siV d] (A0m (A6i e.canon d.canon)):=fun e hem=>E7q e d (hs e hem) hdm;have hc:=A2w (fun s:Sig=>decide (s.name=d.name)) l;unfold D7m at hpk;unfold F6r at hsucc;unfold A3j at *;generalize B0h (fun s:Sig=>decide (s.name=d.name)) l=k at *;refine sR1 hlt q2U ?_;refine AWp.goOn rfl ?_;refine sK fun K2 u2=>?_;refine AWp.bb ?_
  (refine sV q2U fun K z=>?_;refine ci (A0n hd) ?_;apply z;clear z K)
  rcases hc with ⟨rfl,_⟩ | ⟨q,e,rfl,he,_⟩
  ·rw [if_pos (show (-1:Int) < 0 by decide)] at hpk hsucc;rw [if_pos rfl] at hsucc;refine sC hpk q2U ?_;refine sR q2U ?_;refine AWp.tt rfl ?_
   (refine lV q2U fun K z=>?_;refine⟨by simp,by unfold lim sm at *;omega,?_⟩;(try refine ev ?_);apply z;clear z K;try simp only [A0c,A0e])
   refine u2 _ _ ?_;clear u2 K2;refine lT q2U ?_;exact⟨(),trivial,sS,by simp [ble,A0h,hsucc,A2x]⟩
  ·have hge:¬ (q:Int) < 0:=by omega
   rw [if_neg hge] at hpk hsucc;simp only [Int.toNat_natCast,he,Option.getD_some] at hpk hsucc;have ha:=hal e (List.mem_of_getElem? he);generalize A6i e.canon d.canon=bb at *;cases bb
   ·rw [if_pos (by decide)] at hsucc;refine sC hpk q2U ?_;refine sC ha q2U ?_;refine AWp.tt rfl ?_
    (refine lV q2U fun K z=>?_;refine⟨by simp,by unfold lim sm at *;omega,?_⟩;(try refine ev ?_);apply z;clear z K;try simp only [A0c,A0e])
    refine u2 _ _ ?_;clear u2 K2;refine lT q2U ?_;exact⟨(),trivial,sS,by simp [ble,A0h,hsucc,A2x]⟩
   ·rw [if_neg (by decide),List.append_nil] at hsucc;refine sC hpk q2U ?_;refine sC ha q2U ?_;refine AWp.ff rfl (AWp.kk (u2 _ _ ?_));clear u2 K2;refine lT q2U ?_;exact⟨(),trivial,sS,by simp [ble,A0h,hsucc]⟩
theorem F1s (l m:List Sig)(hl:l.length≤sm)(hm:m.length≤sm)(hs:∀ s,s∈l→s.Sm)(ht:∀ s,s∈m→s.Sm):A0a prog 138 [.d (.slice (siR l)),.d (.slice (siR m))] (A0m (decide (A7k l m=[]))):=by
 have h:=E4f l m hl hm hs ht;have e:decide (((A7k l m).length:Int)=0)=decide (A7k l m=[]):=by
  by_cases h0:A7k l m=[]
  ·simp [h0]
  ·have h1:¬ ((A7k l m).length:Int)=0:=by have:=List.length_pos_iff.2 h0;omega
   rw [decide_eq_false h0,decide_eq_false h1]
 rw [← e];generalize A7k l m=z at *;refine cB func138 ?_;refine sR [0,1,4] ?_;refine sC h [0,1,4] ?_;exact aR
abbrev q3U:List Nat:=[0,1,4,5,6,7,11,34]
theorem D6z (l m:List Sig)(hl:l.length≤sm)(hm:m.length≤sm)(hs:∀ s,s∈l→s.Sm)(ht:∀ s,s∈m→s.Sm):A0a prog 160 [.d (.slice (siR l)),.d (.slice (siR m))] (A1m (A7k l m)):=by
 refine cB func160 ?_;refine sR q3U ?_;refine sR q3U ?_;refine AWp.pp 5 1 5 rfl ?_;refine kR q3U fun K1 u1=>?_;refine AWp.bb (AWp.ii m (X:=Unit) (fun j _=>[(0,.d (.slice (siR l))),(1,.d (.slice (siR m))),(5,.acc 5),(6,A0g j)]) (fun j _=>[(5,.rows 1 (A2x (A7k l (m.take j))))])
  (fun j _=>True) () trivial sS (by simp [ble,A0h,A7k,A2x]) ?_ ?_)
 ·intro _ _;rw [List.take_length];refine kR1 Int.lt_irrefl q3U fun K2 u2=>?_;refine AWp.ss rfl ?_;simp only [TB];refine u1 _ _ ?_;refine sR q3U ?_;exact aR
 ·intro j _ d hd hmem dp tk hlt _;have hlen:=D2n l m j;have hsucc:=C6d (l:=l) tk;have hpk:=A5v l d.name hl;have hdm:=ht d hmem;have hal:∀ e,e∈l→A0a prog 215 [siV e,siV d] (A0m (A6i e.canon d.canon)):=fun e hem=>F0m e d (hs e hem) hdm;have hc:=A2w (fun s:Sig=>decide (s.name=d.name)) l;unfold F6r at hsucc;unfold A3j at *;generalize B0h (fun s:Sig=>decide (s.name=d.name)) l=k at *;refine kR1 hlt q3U fun K2 u2=>?_;refine gI u2 ?_;clear u2 K2;refine sK fun K2 u2=>?_;refine AWp.bb ?_
  (refine sV q3U fun K z=>?_;refine ci (A0n hd) ?_;refine cc hpk ?_;apply z;clear z K)
  rcases hc with ⟨rfl,_⟩ | ⟨q,e,rfl,he,_⟩
  ·rw [if_pos (show (-1:Int) < 0 by decide)] at hsucc;rw [if_pos rfl] at hsucc;refine dR q3U 11 ?_;refine AWp.tt rfl ?_
   (refine lV q3U fun K z=>?_;refine ci (A0n hd) ?_;refine⟨by simp,by unfold lim sm at *;omega,?_⟩;(try refine ev ?_);apply z;clear z K;try simp only [A0c,A0e])
   refine u2 _ _ ?_;clear u2 K2;refine lT q3U ?_;exact⟨(),trivial,sS,by simp [ble,A0h,hsucc,A2x]⟩
  ·have hge:¬ (q:Int) < 0:=by omega
   rw [if_neg hge] at hsucc;simp only [Int.toNat_natCast,he,Option.getD_some] at hsucc;have ha:=hal e (List.mem_of_getElem? he);generalize A6i e.canon d.canon=bb at *;cases bb
   ·rw [if_pos (by decide)] at hsucc
    (refine sG q3U [] 11 [] fun K z=>?_;refine ev1 hge ?_;refine ci (A0n he) ?_;refine ci (A0n hd) ?_;refine cc ha ?_;apply z;clear z K)
    refine AWp.tt rfl ?_
    (refine lV q3U fun K z=>?_;refine ci (A0n hd) ?_;refine⟨by simp,by unfold lim sm at *;omega,?_⟩;(try refine ev ?_);apply z;clear z K;try simp only [A0c,A0e])
    refine u2 _ _ ?_;clear u2 K2;refine lT q3U ?_;exact⟨(),trivial,sS,by simp [ble,A0h,hsucc,A2x]⟩
   ·rw [if_neg (by decide),List.append_nil] at hsucc
    (refine sG q3U [] 11 [] fun K z=>?_;refine ev1 hge ?_;refine ci (A0n he) ?_;refine ci (A0n hd) ?_;refine cc ha ?_;apply z;clear z K)
    refine AWp.ff rfl (AWp.kk (u2 _ _ ?_));clear u2 K2;refine lT q3U ?_;exact⟨(),trivial,sS,by simp [ble,A0h,hsucc]⟩
theorem F3g {vars:List Str} {args:List Ty} (ha:∀ u,u∈args→u.Sm) {l:List Sig} (hl:∀ s,s∈l→s.Sm)(j:Nat):∀ s,s∈A9b vars args l j→s.Sm:=fun s hs=>by unfold A9b at hs;obtain⟨⟨x,i⟩,hx,rfl⟩:=List.mem_map.1 hs;have h1:=(List.mem_filter.1 hx).1;have h2:=List.mem_of_mem_take (List.fst_mem_of_mem_zipIdx h1);exact Sig.Sm.subst ha (hl x h2).canon
theorem G0v {p:Prog} (h:p.Sm) {env:List Formal} (he:∀ f,f∈env→f.Sm) {x:Ty} (hx:x.Sm):∀ s,s∈C7a p env x→s.Sm:=by
 have hy:((A1i env x).getD x).Sm:=by
  cases hb:A1i env x with
  | none=>exact hx
  | some y=>exact D0j he hb
 unfold C7a;generalize (A1i env x).getD x=y at *;intro s hs;split at hs
 ·rename_i hi;unfold A4h at hs;rw [if_pos hi] at hs;obtain⟨d,hd,_⟩:=A3n (by decide) hi;rw [hd,Option.getD_some] at hs;exact F3g hy.arg (h.decls.2 d (A3d hd)).sigs.2 _ s hs
 ·split at hs
  ·simp at hs
  ·unfold A5y at hs;obtain⟨⟨d,i⟩,hx,rfl⟩:=List.mem_map.1 hs;have h1:=(List.mem_filter.1 hx).1;have h2:d∈p.decls:=List.mem_of_mem_take (List.fst_mem_of_mem_zipIdx h1);exact Sig.Sm.subst hy.arg (h.decls.2 d h2).sig.canon
theorem F4y {p:Prog} (h:p.Sm)(env:List Formal)(x:Ty):(C7a p env x).length≤sm:=by
 unfold C7a;split
 ·exact B2o p h _
 ·split
  ·simp
  ·exact Nat.le_trans (B1q ..) h.decls.1
theorem B1v {p:Prog} (h:p.Sm) {env:List Formal} (he:∀ f,f∈env→f.Sm) {x:Ty} (hx:x.Sm):∀ s,s∈A3o p env x→s.Sm:=fun s hs=>G0v h he hx s ((A4r _).mem_iff.1 hs)
theorem A3h {p:Prog} (h:p.Sm)(env:List Formal)(x:Ty):(A3o p env x).length≤sm:=by unfold A3o;rw [(A4r _).length_eq];exact F4y h env x
def A8n (p:Prog)(env:List Formal)(x:Ty):Bool:=A1w p x 2 && !(A1i env x).isSome
abbrev q1W:List Nat:=[0,1,2,5,6,8,10,20]
theorem C4n (p:Prog)(h:p.Sm)(env:List Formal)(hel:env.length≤sm)(he:∀ f,f∈env→f.Sm)(x:Ty)(hx:x.Sm):A0a prog 136 [.dptr (B0u p) 0,.d (.slice (foR env)),tyV x] (A0m (A8n p env x)):=by
 have hb:=D9t env x hel he;have hsp:=B2i p h x hx;unfold A8n;generalize A1i env x=o at *;generalize A1w p x 2=bb at *;refine cB func136 ?_;refine sR q1W ?_;cases o with
 | none =>
  simp only [G3f] at hb;refine sC hb q1W ?_
  (refine AWp.seqR q1W [20] (by decide +kernel) fun K z=>?_;refine ev ?_;refine⟨_,_,_,_,_,rfl,hsp,?_⟩;(try refine ev ?_);apply z;clear z K)
  cases bb
  ·refine sR q1W ?_;exact aR
  ·refine sR q1W ?_;exact aR
 | some y =>
  simp only [G3f] at hb;refine sC hb q1W ?_
  (refine AWp.seqR q1W [20] (by decide +kernel) fun K z=>?_;refine ev ?_;refine⟨_,_,_,_,_,rfl,hsp,?_⟩;(try refine ev ?_);apply z;clear z K)
  cases bb
  ·refine sR q1W ?_;exact aR
  ·refine sR q1W ?_;exact aR
theorem B6s (env:List Formal)(x:Ty):(A1i env x).isSome = !decide (A3u env x < 0):=by
 unfold A1i;split
 ·rename_i h0;simp [h0]
 ·rename_i h0;obtain⟨f,hf,_⟩:=B2j h0;simp [hf,h0]
theorem B1u (p:Prog)(env:List Formal)(hel:env.length≤sm)(x:Ty):A0a prog 159 [prV p,.d (.slice (foR env)),tyV x] (A0m (A8n p env x)):=by
 have hf:=A6z env x hel;have hi:=A2o p x 2;unfold A8n;rw [B6s];generalize A3u env x=k at *;generalize A1w p x 2=bb at *;refine cB func159 ?_;refine sR [0,1,2,3,5,6] ?_;by_cases hk:k < 0
 ·(refine sV [0,1,2,3,5,6] fun K z=>?_;refine⟨_,.inl ⟨_,rfl,hf,rfl⟩,?_⟩;(try refine ev1 hk ?_);refine cc hi ?_;apply z;clear z K)
  simp only [hk,decide_true,Bool.not_true,Bool.not_false,Bool.and_true];exact aR
 ·(refine sV [0,1,2,3,5,6] fun K z=>?_;refine⟨_,.inl ⟨_,rfl,hf,rfl⟩,?_⟩;(try refine ev1 hk ?_);apply z;clear z K)
  simp only [hk,decide_false,Bool.not_true,Bool.not_false,Bool.and_false];exact aR
def A5x (p:Prog)(env:List Formal)(t i:Ty):Bool:=if A8n p env i=true then decide (A7k (A3o p env t) (A3o p env i)=[]) else B2c t i
abbrev q2W:List Nat:=[0,1,2,3,6,7,8,13]
theorem C8c (p:Prog)(h:p.Sm)(env:List Formal)(hel:env.length≤sm)(he:∀ f,f∈env→f.Sm)(t i:Ty)(ht:t.Sm)(hi:i.Sm):A0a prog 64 [.dptr (B0u p) 0,.d (.slice (foR env)),tyV t,tyV i] (A0m (A5x p env t i)):=by
 have h1:=C4n p h env hel he i hi;have h2:=B9r t i ht;have h3:=D3z p h env hel he t ht;have h4:=D3z p h env hel he i hi;have h5:=F1s (A3o p env t) (A3o p env i) (A3h h env t) (A3h h env i) (B1v h he ht) (B1v h he hi);unfold A5x;generalize A8n p env i=bb at *;generalize A3o p env t=l at *;generalize A3o p env i=m at *;refine cB func64 ?_;refine sR q2W ?_;cases bb
 ·rw [if_neg (by decide)];refine kC h1 q2W fun K1 u1=>?_;refine tI ?_;refine sC h2 q2W ?_;exact aR
 ·rw [if_pos rfl];refine kC h1 q2W fun K1 u1=>?_;refine kI u1 ?_
  (refine sG q2W [] 7 [] fun K z=>?_;refine ev ?_;refine cc h3 ?_;refine cc h4 ?_;refine cc h5 ?_;apply z;clear z K)
  exact aR
abbrev q3W:List Nat:=[0,1,2,3,4,6,7,8,12]
theorem A3q (p:Prog)(h:p.Sm)(env:List Formal)(hel:env.length≤sm)(he:∀ f,f∈env→f.Sm)(t i:Ty)(ht:t.Sm)(hi:i.Sm):A0a prog 81 [prV p,.d (.slice (foR env)),tyV t,tyV i] (A0m (A5x p env t i)):=by
 have h1:=B1u p env hel i;have h2:=F6j t i ht;have h3:=B4t p h env hel he t ht;have h4:=B4t p h env hel he i hi;have h5:=D6z (A3o p env t) (A3o p env i) (A3h h env t) (A3h h env i) (B1v h he ht) (B1v h he hi);unfold A5x;generalize A8n p env i=bb at *;generalize A3o p env t=l at *;generalize A3o p env i=m at *;have e:decide (((A7k l m).length:Int)=0)=decide (A7k l m=[]):=by
  by_cases h0:A7k l m=[]
  ·simp [h0]
  ·have h1:¬ ((A7k l m).length:Int)=0:=by have:=List.length_pos_iff.2 h0;omega
   rw [decide_eq_false h0,decide_eq_false h1]
 rw [← e];generalize A7k l m=z at *;refine cB func81 ?_;refine sR q3W ?_;cases bb
 ·rw [if_neg (by decide)];refine kC h1 q3W fun K1 u1=>?_;refine kI u1 ?_;refine sC h2 q3W ?_;exact aR
 ·rw [if_pos rfl];refine kC h1 q3W fun K1 u1=>?_;refine tI ?_
  (refine sG q3W [] 7 [] fun K z=>?_;refine ev ?_;refine cc h3 ?_;refine cc h4 ?_;refine cc h5 ?_;apply z;clear z K)
  exact aR
def E0x (p:Prog)(env fs:List Formal)(args:List Ty)(z:Formal × Ty):Bool:=!A5x p env z.2 (z.1.bound.subst (A0d fs) args)
def A4s (p:Prog)(env fs:List Formal)(args:List Ty):Int:=B0h (E0x p env fs args) (fs.zip args)
theorem F4i {α β:Type} {l:List α} {m:List β} {j:Nat} {a:α} {b:β} (ha:l[j]? = some a)(hb:m[j]? = some b):(l.zip m).take (j+1)=(l.zip m).take j++[(a,b)]∧(l.zip m)[j]? = some (a,b):=by
 have h:(l.zip m)[j]? = some (a,b):=by rw [List.getElem?_zip_eq_some];exact⟨ha,hb⟩
 refine⟨?_,h⟩;rw [List.take_add_one,h];rfl
abbrev q4W:List Nat:=[0,1,2,3,4,8,9,13,32]
theorem C4x (p:Prog)(h:p.Sm)(env:List Formal)(hel:env.length≤sm)(he:∀ f,f∈env→f.Sm)(fs:List Formal)(hfl:fs.length≤sm)(hf:∀ f,f∈fs→f.Sm)(args:List Ty)(hal:args.length=fs.length)(ha:∀ u,u∈args→u.Sm) :
  A0a prog 176 [prV p,.d (.slice (foR env)),.d (.slice (foR fs)),A3s args] (A0g (A4s p env fs args)):=by
 have hnames:=A1u fs hfl;unfold A4s;refine cB func176 ?_;refine sR q4W ?_;refine kR q4W fun K1 u1=>?_;refine AWp.bb (AWp.ii fs (X:=Unit) (fun j _=>[(1,.d (.slice (foR env))),(2,.d (.slice (foR fs))),(3,A3s args),(4,.box 4 0),(9,A0g j)]) (fun _ _=>[(4,.cells ((prC p).map .d))])
  (fun j _=>∀ y,y∈(fs.zip args).take j→E0x p env fs args y=false) () (by simp) sS (by simp [ble,A0h,prC]) ?_ ?_)
 ·intro _ hI;rw [List.take_of_length_le (by rw [List.length_zip];omega)] at hI;refine kR1 Int.lt_irrefl q4W fun K2 u2=>?_;refine AWp.ss rfl ?_;simp only [TB];refine u1 _ _ ?_;refine sR q4W ?_;rw [A5t hI];exact aR
 ·intro j _ d hd hmem dp tk hlt hI;obtain⟨u,hu,_⟩:=A9v (l:=args) (j:=j) (by omega);have hum:=List.mem_of_getElem? hu;obtain⟨hz1,hz2⟩:=F4i hd hu;have hsub:=A2j (A0d fs) args ha d.bound (hf d hmem).bound;have him:=A3q p h env hel he u (d.bound.subst (A0d fs) args) (ha u hum) (Ty.Sm.subst ha _ (hf d hmem).bound);have hq:E0x p env fs args (d,u) = !A5x p env u (d.bound.subst (A0d fs) args):=rfl;generalize A5x p env u (d.bound.subst (A0d fs) args)=bb at *;refine kR1 hlt q4W fun K2 u2=>?_;refine gI u2 ?_;clear u2 K2;refine sK fun K2 u2=>?_;refine AWp.bb ?_
  (refine sG q4W [] 15 [] fun K z=>?_;refine ev ?_;refine ci (A0w hu) ?_;refine ci (A0v hd) ?_;refine cc hnames ?_;refine cc hsub ?_;refine cc him ?_;apply z;clear z K)
  cases bb
  ·refine AWp.tt rfl ?_;refine sR q4W ?_;rw [A5u hz2 hq hI];exact aR
  ·refine AWp.ff rfl (AWp.kk (u2 _ _ ?_));clear u2 K2;refine lT q4W ?_;refine⟨(),?_,sS,(by simp [ble,A0h,prC])⟩;rw [hz1];intro y hy;rcases List.mem_append.1 hy with hy | hy
   ·exact hI y hy
   ·simp only [List.mem_cons,List.not_mem_nil,or_false] at hy;rw [hy];exact hq
mutual
def chk (p:Prog)(env:List Formal):Ty→Option Int
 | .mk n a pos=>if (A1i env (.mk n a pos)).isSome=true then none else if A1z p n=0∨(A1f p n).length≠a.length then some pos else
   match E2j p env a with
   | some q=>some q
   | none=>if 0≤A4s p env (A1f p n) a then some ((a[(A4s p env (A1f p n) a).toNat]?).getD default).pos else none
def E2j (p:Prog)(env:List Formal):List Ty→Option Int
 | []=>none
 | t::ts=>match chk p env t with
  | some q=>some q
  | none=>E2j p env ts
end
theorem G3t (p:Prog)(env:List Formal)(x:Ty):chk p env x=if (A1i env x).isSome=true then none else if A1z p x.name=0∨(A1f p x.name).length≠x.args.length then some x.pos else
   match E2j p env x.args with
   | some q=>some q
   | none=>if 0≤A4s p env (A1f p x.name) x.args then some ((x.args[(A4s p env (A1f p x.name) x.args).toNat]?).getD default).pos else none:=by
 cases x with | mk n a pos=>rw [chk];rfl
theorem B4o {p:Prog} (h:p.Sm)(nm:Str):(A1f p nm).length≤sm∧∀ f,f∈A1f p nm→f.Sm:=by
 unfold A1f;cases ho:A5f p nm with
 | none=>simp
 | some d=>exact (h.decls.2 d (A3d ho)).formals
theorem C6t {p:Prog} {env fs:List Formal} {a:List Ty} (h:0≤A4s p env fs a)(hal:a.length=fs.length):∃ u,a[(A4s p env fs a).toNat]? = some u:=by
 unfold A4s at *;rcases A2w (E0x p env fs a) (fs.zip a) with ⟨h1,_⟩ | ⟨j,z,h1,h2,_⟩
 ·omega
 ·rw [h1];have:=(List.getElem?_eq_some_iff.1 h2).1;rw [List.length_zip] at this;exact⟨_,List.getElem?_eq_getElem (by omega)⟩
def E4t:Option Int→SV
 | some q=>.tuple [A0g q,A0m true]
 | none=>.tuple [A0g 0,A0m false]
abbrev q1X:List Nat:=[0,1,2,3,5,6,7,8,9,10,11,12,16,33,40,54,63]
theorem A9a (p:Prog)(h:p.Sm)(env:List Formal)(hel:env.length≤sm)(he:∀ f,f∈env→f.Sm):∀ x:Ty,x.Sm→A0a prog 115 [prV p,.d (.slice (foR env)),tyV x] (E4t (chk p env x)):=by
 intro x
 induction x using Ty.induct with
 | h x ih =>
 intro hx;have hf:=A6z env x hel;have hfo:=A6o p x.name;have hki:=B7e p x.name;obtain⟨hf1,hf2⟩:=B4o h x.name;have hbo:=C4x p h env hel he (A1f p x.name) hf1 hf2 x.args;have hbg:=@C6t p env (A1f p x.name) x.args;have hxl:=hx.len;rw [G3t,B6s];generalize A3u env x=z at *;generalize A1f p x.name=fs at *;generalize A1z p x.name=k at *;by_cases hz:z < 0
 ·rw [if_neg (by simp [hz])];have hz':¬ z ≥ 0:=by omega
  by_cases hk:k=0
  ·rw [if_pos (.inl hk)];refine cB func115 ?_;refine sR q1X ?_;refine sK fun K1 u1=>?_
   (refine sV q1X fun K z=>?_;refine⟨_,.inl ⟨_,rfl,hf,rfl⟩,?_⟩;(try refine ev1 hz' ?_);apply z;clear z K)
   refine kI u1 ?_;clear u1 K1;refine sC hfo q1X ?_;refine sK fun K1 u1=>?_
   (refine sV q1X fun K z=>?_;refine⟨_,.inl ⟨_,rfl,hki,rfl⟩,?_⟩;(try refine ev1 hk ?_);apply z;clear z K)
   refine tI ?_;refine sR q1X ?_;exact aR
  ·by_cases hlen:fs.length=x.args.length
   ·have hlen':(fs.length:Int)=x.args.length:=by omega
    have hbo:=hbo hlen.symm hx.arg;have hbg:=fun hh=>hbg hh hlen.symm;rw [if_neg (by rintro (h1 | h1) <;> contradiction)];generalize A4s p env fs x.args=b at *;generalize hoc:E2j p env x.args=oc;refine cB func115 ?_;refine sR q1X ?_;refine sK fun K1 u1=>?_
    (refine sV q1X fun K z=>?_;refine⟨_,.inl ⟨_,rfl,hf,rfl⟩,?_⟩;(try refine ev1 hz' ?_);apply z;clear z K)
    refine kI u1 ?_;clear u1 K1;refine sC hfo q1X ?_;refine sK fun K1 u1=>?_
    (refine sV q1X fun K z=>?_;refine⟨_,.inl ⟨_,rfl,hki,rfl⟩,?_⟩;(try refine ev2 hk hlen' ?_);apply z;clear z K)
    refine kI u1 ?_;clear u1 K1;refine kR q1X fun K1 u1=>?_;refine AWp.bb (AWp.ii x.args (X:=Unit) (fun j _=>[(1,.d (.slice (foR env))),(3,.box 3 0),(5,.box 5 0),(8,.d (.slice (foR fs))),(9,A0g j)]) (fun _ _=>[(3,.cells ((prC p).map .d)),(5,.cells ((tyC x).map .d))])
     (fun j _=>E2j p env (x.args.drop j)=oc) () hoc sS (by simp [ble,A0h,tyC,prC]) ?_ ?_)
    ·intro _ hI;rw [List.drop_length,E2j] at hI;subst hI;simp only;refine kR1 Int.lt_irrefl q1X fun K2 u2=>?_;refine AWp.ss rfl ?_;simp only [TB];refine u1 _ _ ?_;clear u2 K2 u1 K1;by_cases hb0:0≤b
     ·obtain⟨u,hu⟩:=hbg hb0;have hge:b ≥ 0:=hb0;rw [if_pos hb0,hu,Option.getD_some];refine sC hbo q1X ?_;refine kR1 hge q1X fun K1 u1=>?_;refine tI ?_
      (refine sV q1X fun K z=>?_;refine ci (A0w hu) ?_;apply z;clear z K)
      exact aR
     ·have hge:¬ b ≥ 0:=hb0;rw [if_neg hb0];refine sC hbo q1X ?_;refine kR1 hge q1X fun K1 u1=>?_;refine kI u1 ?_;refine sR q1X ?_;exact aR
    ·intro j _ d hd hmem dp tk hlt hI;have hc:=ih d hmem (hx.arg d hmem);rw [dp,E2j] at hI;refine kR1 hlt q1X fun K2 u2=>?_;refine gI u2 ?_;clear u2 K2;refine sK fun K2 u2=>?_;refine AWp.bb ?_;cases ho:chk p env d with
     | none =>
      rw [ho] at hc hI;simp only [E4t] at hc hI
      (refine sG q1X [] 12 [] fun K z=>?_;refine ev ?_;refine ci (A0w hd) ?_;refine cc hc ?_;apply z;clear z K)
      refine sR q1X ?_;refine AWp.ff rfl (AWp.kk (u2 _ _ ?_));clear u2 K2;refine lT q1X ?_;exact⟨(),hI,sS,(by simp [ble,A0h,tyC,prC])⟩
     | some q =>
      rw [ho] at hc hI;simp only [E4t] at hc hI
      (refine sG q1X [] 12 [] fun K z=>?_;refine ev ?_;refine ci (A0w hd) ?_;refine cc hc ?_;apply z;clear z K)
      refine sR q1X ?_;refine AWp.tt rfl ?_;refine sR q1X ?_;subst hI;exact aR
   ·have hlen':¬ (fs.length:Int)=x.args.length:=by omega
    rw [if_pos (.inr hlen)];refine cB func115 ?_;refine sR q1X ?_;refine sK fun K1 u1=>?_
    (refine sV q1X fun K z=>?_;refine⟨_,.inl ⟨_,rfl,hf,rfl⟩,?_⟩;(try refine ev1 hz' ?_);apply z;clear z K)
    refine kI u1 ?_;clear u1 K1;refine sC hfo q1X ?_;refine sK fun K1 u1=>?_
    (refine sV q1X fun K z=>?_;refine⟨_,.inl ⟨_,rfl,hki,rfl⟩,?_⟩;(try refine ev2 hk hlen' ?_);apply z;clear z K)
    refine tI ?_;refine sR q1X ?_;exact aR
 ·have hz':z ≥ 0:=by omega
  rw [if_pos (by simp [hz])];refine cB func115 ?_;refine sR q1X ?_;refine sK fun K1 u1=>?_
  (refine sV q1X fun K z=>?_;refine⟨_,.inl ⟨_,rfl,hf,rfl⟩,?_⟩;(try refine ev1 hz' ?_);apply z;clear z K)
  refine tI ?_;refine sR q1X ?_;exact aR
end Go.Abs
