/- slices.SortFunc on types: some order by types.Compare -/
import Derived.Test.YtaneedhchnaniaaGreatDoorQW21
import Derived.Test.YtaneedhchnaniaaGreatDoorQDr2
import Derived.Test.YtaneedhchnaniaaGreatDoorQAb21
import Derived.Test.YtaneedhchnaniaaGreatDoorQShelfM3
namespace Go.Abs
set_option linter.unusedSimpArgs false
set_option linter.unusedVariables false
open Go Go.Proofs Go.Sort Tryz
set_option maxRecDepth 100000
set_option maxHeartbeats 1000000
abbrev tyN:Ty:=.mk [] [] 0
theorem tyN_Sm:tyN.Sm:=.mk _ _ _ (by simp) (by simp) (by simp)
def ctN (l:List Ty)(i:Nat):Ty:=(l[i]?).getD tyN
structure RowsT (C:Ctx)(S:Nat→Prop)(w:World) (β:Names)(bx:Boxes)(k:Nat)(l:List Ty)(b:Nat)(enc:Nat→List Value):Prop where
 len:∀ i,(enc i).length=3
 one:∀ i,∀ v∈enc i,v.oneCell'=true
 zero:enc l.length=[.string ⟨#[]⟩,.slice none 0 0,.int .i64 0]
 lt:b < w.heap.size
 holds:HoldsK enc 3 w b ((β k).off*3) (Array.range l.length)
 row:∀ (m:Nat) (os:Array Obj) (dk:Array Nat) (i:Nat),RepV (all (sortWorldK enc 3 w b ((β k).off*3) m dk os)) (sortWorldK enc 3 w b ((β k).off*3) m dk os) β (tyV (ctN l i)) (.agg (enc i).toArray)
 tab:∀ (m:Nat) (os:Array Obj) (dk:Array Nat) b' cs,fixedRow C.G.sy C.G.ra b' cs→∃ ty fr,(sortWorldK enc 3 w b ((β k).off*3) m dk os).heap[b']? = some (.cells cs ty fr)
 inv:∀ (m:Nat) (os:Array Obj) (dk:Array Nat),dk.size=l.length→Inv C S (sortWorldK enc 3 w b ((β k).off*3) m dk os) β ((k,.rows 3 (tyR (dk.toList.map (ctN l))))::berase k bx)∧SExt S w S (sortWorldK enc 3 w b ((β k).off*3) m dk os)
theorem rowsT {C:Ctx} {S:Nat→Prop} {w:World} {β:Names} {bx:Boxes} {k:Nat} {l:List Ty} {b:Nat} (hi:Inv C S w β bx)(hbm:(k,BoxC.rows 3 (tyR l))∈bx)(hbase:(β k).base=some b):∃ enc,RowsT C S w β bx k l b enc:=by
 obtain⟨q1,q2,q3,q4,q5,q6,q7⟩:=hi.box k _ hbm
 rw [hbase] at q7
 simp only at q7
 have hlen2:l.length=(β k).len:=by rw [← q2];simp [tyR_map]
 obtain⟨ty,vs,hh,hcap,hrep⟩:=q7
 obtain⟨n,hn0⟩:∃ n,n=l.length:=⟨_,rfl⟩
 have hS:=hi.priv k _ hbm b hbase
 have hin:∀ i,i < n→((β k).off+i)*3+3≤vs.length:=fun i h=>by
  have h1:((β k).off+i+1)*3≤((β k).off+(β k).cap)*3:=Nat.mul_le_mul_right _ (by omega)
  omega
 let enc:Nat→List Value:=fun i=>if i < n then (vs.drop (((β k).off+i)*3)).take 3 else [.string ⟨#[]⟩,.slice none 0 0,.int .i64 0]
 have encLen:∀ i,(enc i).length=3:=fun i=>by
  simp only [enc]
  split
  ·rename_i h
   have:=hin i h
   rw [List.length_take,List.length_drop];omega
  ·rfl
 have encGet:∀ i j,i < n→j < 3→(enc i)[j]? = vs[((β k).off+i)*3+j]?:=fun i j h hj=>by
  simp only [enc,if_pos h]
  rw [List.getElem?_take_of_lt hj,List.getElem?_drop]
 have encRep:∀ i j d v,(tyC (ctN l i))[j]? = some d→(enc i)[j]? = some v→RepC S w d v:=fun i j d v hd he=>by
  have hj:j < 3:=by have:=(List.getElem?_eq_some_iff.1 he).1;rw [encLen] at this;exact this
  by_cases h:i < n
  ·have hs:l[i]? = some (l[i]'(by omega)):=List.getElem?_eq_getElem _
   have hc:ctN l i=l[i]'(by omega):=by simp only [ctN,hs,Option.getD_some]
   rw [hc] at hd
   rw [encGet i j h hj] at he
   exact hrep i j _ d v (tyR_get hs) hd he
  ·have hc:ctN l i=tyN:=by simp only [ctN,List.getElem?_eq_none (show l.length≤i by omega),Option.getD_none]
   rw [hc] at hd
   simp only [enc,if_neg h] at he
   match j,hd,he with
   | 0,hd,he=>cases hd;cases he;exact .str [] (by simp)
   | 1,hd,he=>cases hd;cases he;exact .slice0 _ _ (by simp)
   | 2,hd,he=>cases hd;cases he;exact .int _ _
   | j+3,hd,he=>simp at he
 have tyOne:∀ (c:Ty) (d:D),d∈tyC c→d.one=true:=fun c d hd=>by
  simp only [tyC,List.mem_cons,List.not_mem_nil,or_false] at hd
  rcases hd with rfl | rfl | rfl <;> rfl
 have encOne:∀ i,∀ v∈enc i,v.oneCell'=true:=fun i v hv=>by
  obtain⟨j,hj⟩:=List.getElem?_of_mem hv
  have hl:j < (tyC (ctN l i)).length:=by
   have:=(List.getElem?_eq_some_iff.1 hj).1
   rw [encLen] at this;exact this
  exact (encRep i j _ v (List.getElem?_eq_getElem hl) hj).one (tyOne _ _ (List.getElem_mem _))
 have hold:∀ m os dk b',b' < w.heap.size→b'≠b→(sortWorldK enc 3 w b ((β k).off*3) m dk os).heap[b']? = w.heap[b']?:=fun m os dk b' hl hne=>by
  simp only [sortWorldK,Sort.grow]
  rw [Array.getElem?_append_left (by simp [putRowK,putRow,mapBlock,Sort.ahead];exact hl)]
  simp [putRowK,putRow,mapBlock,Sort.ahead,Array.getElem?_modify,Ne.symm hne]
 have hsz:∀ m os dk,w.heap.size≤(sortWorldK enc 3 w b ((β k).off*3) m dk os).heap.size:=fun m os dk=>size_sortWorldK_c enc 3 w b _ m dk os
 have hW:∀ m os dk,SExt S w (all (sortWorldK enc 3 w b ((β k).off*3) m dk os)) (sortWorldK enc 3 w b ((β k).off*3) m dk os):=fun m os dk =>
  ⟨fun b' hb'=>Nat.lt_of_lt_of_le (hi.Slt b' hb') (hsz m os dk),fun b' hb'=>hold m os dk b' (hi.Slt b' hb') fun he=>hS.1 (he ▸ hb')⟩
 refine⟨enc,encLen,encOne,?_,hS.2.1,?_,fun m os dk i=>?_,fun m os dk b' cs hf=>?_,fun m os dk hdk=>?_⟩
 ·simp only [enc,if_neg (show ¬ l.length < n by omega)]
 ·intro j hj
  rw [size_flatK,Array.size_range] at hj
  have hj7:j / 3 < n:=by omega
  have hfl:(flatK enc 3 (Array.range l.length))[j]! = (enc (j / 3))[j % 3]!:=by
   rw [get_flatK _ _ _ _ (by rw [Array.size_range];exact hj)]
   congr 2
   rw [getElem!_pos _ _ (by rw [Array.size_range];omega),Array.getElem_range]
  have hlt:=hin (j / 3) hj7
  have hpos:((β k).off+j / 3)*3+j % 3=(β k).off*3+j:=by omega
  have hlt2:(β k).off*3+j < vs.length:=by omega
  have hen:(enc (j / 3))[j % 3]! = vs[(β k).off*3+j]:=by
   have:=encGet (j / 3) (j % 3) hj7 (Nat.mod_lt _ (by decide))
   rw [hpos,List.getElem?_eq_getElem hlt2] at this
   rw [List.getElem!_eq_getElem?_getD,this];rfl
  refine⟨?_,?_⟩
  ·simp only [World.cell?,hh,Option.isSome_none,id,hfl,hen]
   simp [hlt2]
  ·simp [World.frozen?,hh]
 ·show RepV _ _ _ (.agg ((tyC (ctN l i)).map SV.d)) _
  refine RepV.agg_of ⟨by rw [encLen];rfl,fun j c v hc hv=>?_⟩ rfl
  rw [List.getElem?_map,Option.map_eq_some_iff] at hc
  obtain⟨d,hd,rfl⟩:=hc
  exact .d _ _ ((encRep i j d v hd hv).ext (hW m os dk))
 ·obtain⟨h1,ty',fr,h2⟩:=hi.tab b' cs hf
  exact⟨ty',fr,((hW m os dk).same b' h1).trans h2⟩
 ·have hnew:BoxOK S (putRowK enc 3 (Sort.ahead w m) b ((β k).off*3) dk) β (β k) (.rows 3 (tyR (dk.toList.map (ctN l)))):=by
   refine⟨q1,by simp only [tyR_map,List.length_map,Array.length_toList];omega,q3,by simp only [tyR_map,List.length_map,Array.length_toList];simp only [tyR_map,List.length_map] at q4;omega,?_,?_,?_⟩
   ·intro row hr
    rw [tyR_map] at hr
    obtain⟨s,_,rfl⟩:=List.mem_map.1 hr;rfl
   ·intro row hr d hd
    rw [tyR_map] at hr
    obtain⟨s,hs,rfl⟩:=List.mem_map.1 hr
    exact tyOne s d hd
   ·rw [hbase]
    refine⟨ty,(putCells id ((β k).off*3) (flatK enc 3 dk) ⟨vs⟩).toList,?_,by simpa [putCells] using hcap,?_⟩
    ·simp [putRowK,putRow,mapBlock,Sort.ahead,Array.getElem?_modify,hh,onCells]
    ·intro r j row d v hr hd hv
     have hrd:r < dk.size:=by have:=(List.getElem?_eq_some_iff.1 hr).1;simpa [tyR_map] using this
     have hrow:row=tyC (ctN l dk[r]):=by
      simp only [tyR_map,List.getElem?_map,Array.getElem?_toList,Array.getElem?_eq_getElem hrd,Option.map_some,Option.some.injEq] at hr
      exact hr.symm
     subst hrow
     have hj:j < 3:=by have:=(List.getElem?_eq_some_iff.1 hd).1;exact this
     have hflat:(flatK enc 3 dk)[r*3+j]! = (enc dk[r])[j]!:=by
      rw [get_flatK _ _ _ _ (by omega),show (r*3+j) / 3=r by omega,show (r*3+j) % 3=j by omega,getElem!_pos dk r hrd]
     have hin':=hin r (by omega)
     have hlt:((β k).off+r)*3+j < vs.length:=by omega
     have hve:(enc dk[r])[j]? = some v:=by
      rw [Array.getElem?_toList,putCells,Array.getElem?_mapIdx] at hv
      have hc:(⟨vs⟩:Array Value)[((β k).off+r)*3+j]? = some vs[((β k).off+r)*3+j]:=by simp [hlt]
      rw [hc,Option.map_some,if_pos ⟨by omega,by rw [size_flatK];omega⟩,show ((β k).off+r)*3+j - (β k).off*3=r*3+j by omega,hflat] at hv
      have hje:j < (enc dk[r]).length:=by rw [encLen];exact hj
      rw [List.getElem?_eq_getElem hje]
      simp only [id,Option.some.injEq] at hv
      rw [← hv,getElem!_pos (enc dk[r]) j hje]
     exact (encRep _ j d v hd hve).ext ⟨fun _ h=>h,fun b' hb'=>by
      have hne:b≠b':=fun he=>hS.1 (he ▸ hb')
      simp [putRowK,putRow,mapBlock,Sort.ahead,Array.getElem?_modify,hne]⟩
  obtain⟨g1,g2⟩:=hi.setSame (w':=putRowK enc 3 (Sort.ahead w m) b ((β k).off*3) dk) (c:=.rows 3 (tyR (dk.toList.map (ctN l)))) hbm hbase (fun b' hne=>by
   simp [putRowK,putRow,mapBlock,Sort.ahead,Array.getElem?_modify,Ne.symm hne]) rfl rfl rfl (by simp [putRowK,putRow,mapBlock,Sort.ahead]) hnew
  obtain⟨g3,g4⟩:=g1.grow (S':=S) (w':=Sort.grow (putRowK enc 3 (Sort.ahead w m) b ((β k).off*3) dk) os) (fun _ h=>h) (fun _ h=>.inl h)
   (fun b' hb'=>by have:=g1.Slt b' hb';simp only [Sort.grow,Array.size_append];omega) (fun b' hb'=>by simp only [Sort.grow];exact Array.getElem?_append_left hb') rfl rfl rfl (by simp [Sort.grow])
  exact⟨g3,g2.trans g4⟩
theorem cmpT_swo {α:Type} (c:α→Ty):SWO (ltOf fun x y:α=>cmpT (c x) (c y)) where
 irrefl x:=by have:=cmpT_anti (c x) (c x);simp only [ltOf,decide_eq_false_iff_not];omega
 trans x y z h1 h2:=by
  simp only [ltOf,decide_eq_true_eq] at *
  exact (cmpT_T3 (c x) (c y) (c z)).1 h1 (by omega)
 ntrans x y z h1 h2:=by
  simp only [ltOf,decide_eq_false_iff_not] at *
  have a1:=cmpT_anti (c x) (c y)
  have a2:=cmpT_anti (c y) (c z)
  have a3:=cmpT_anti (c x) (c z)
  obtain⟨k1,k2,k3⟩:=cmpT_T3 (c z) (c y) (c x)
  by_cases e:cmpT (c z) (c y)=0
  ·by_cases k:cmpT (c y) (c x)=0
   ·have:=k3 e k;omega
   ·have:=k2 (by omega) (by omega);omega
  ·have:=k1 (by omega) (by omega);omega
theorem ctN_Sm {l:List Ty} (hSm:∀ c,c∈l→c.Sm)(i:Nat):(ctN l i).Sm:=by
 unfold ctN
 cases hs:l[i]? with
 | none=>exact tyN_Sm
 | some s=>exact hSm s (List.mem_of_getElem? hs)
theorem ctN_range (l:List Ty):(List.range l.length).map (ctN l)=l:=by
 refine List.ext_getElem? fun i=>?_
 rw [List.getElem?_map]
 by_cases h:i < l.length
 ·rw [List.getElem?_range h,Option.map_some,List.getElem?_eq_getElem h]
  simp only [ctN,List.getElem?_eq_getElem h,Option.getD_some]
 ·rw [List.getElem?_eq_none (by simp;omega),List.getElem?_eq_none (by omega)];rfl
theorem opP_sortT {sl:SL} {bx:Boxes} {x y:Operand} {tys:List TypeId} {o:Oper} (k:Nat)(l:List Ty)(ho:o.op=.call ⟨.value (.func 121),[x,y].toArray,tys.toArray⟩)(hx:opnd sl x=.acc k)(hy:opnd sl y=.clo 25 [])(hb:bget bx k=some (.rows 3 (tyR l)))(hlen:l.length≤sm)(hSm:∀ c,c∈l→c.Sm) :
  OpP prog o (opnd sl) bx fun r bx'=>r=.tuple []∧∃ l':List Ty,l'.Perm l∧l'.Pairwise (fun a b=>cmpT a b≤0)∧bx'=(k,.rows 3 (tyR l'))::berase k bx:=by
 intro C S w β a hi ha
 have hE:Enters prog 121:=(Enters.of func121 rfl (by decide))
 have hx1:=ha x (mC ho)
 rw [hx] at hx1
 have hbm:=mem_of_bget hb
 obtain⟨q1,q2,q3,q4,q5,q6,q7⟩:=hi.box k _ hbm
 generalize hv:a.eval x=v at hx1
 cases hx1
 have hy2:a.eval y=.func (.func 25) #[] #[]:=by
  have hy1:=ha y (mC ho)
  rw [hy] at hy1
  generalize a.eval y=u at hy1
  cases hy1 with
  | clo _ _ vs h1 _=>rw [List.length_eq_zero_iff.1 h1]
 have hfv:a.eval (.func 121)=.func (.func 121) #[] #[]:=rfl
 refine Or.inl ?_
 unfold Oper.wp
 rw [run_enter hE ho hfv,Oper.upon_enter]
 have hlen2:l.length=(β k).len:=by rw [← q2];simp [tyR_map]
 have hcbs:([x,y].toArray.map a.eval)++(#[]:Array Value) = #[.slice ((β k).base.map fun b=>⟨b,(β k).off*(β k).sz,none⟩) (β k).len (β k).cap,.func (.func 25) #[] #[]]:=by
  apply Array.ext'
  rw [Array.toList_append,Array.toList_map]
  show [a.eval x,a.eval y]++[]=_
  rw [hv,hy2];rfl
 rw [hcbs]
 clear hcbs
 generalize hbase:(β k).base=ob at q7
 cases ob with
 | none =>
  simp only at q7
  have hl0:l=[]:=List.eq_nil_of_length_eq_zero (by omega)
  subst hl0
  rw [show (β k).len=0 by omega]
  refine (AnyF.slices_SortFunc_none sortT _ _ _ w).mono ?_
  rintro e w' ⟨rfl,rfl⟩
  refine⟨_,_,_,S,β,⟨rfl,[],.refl _,.nil,rfl⟩,rfl,hi.sub fun j c hj=>?_,SExt.refl S _,.tuple [] [] rfl (by simp),fun _ _=>rfl⟩
  rcases List.mem_cons.1 hj with h | h
  ·rw [h];exact hbm
  ·exact (mem_berase.1 h).2
 | some b =>
  obtain⟨enc,R⟩:=rowsT hi hbm hbase
  have hcmp:CmpLays prog 25 #[] enc 3 (fun x y=>cmpT (ctN l x) (ctN l y)) b ((β k).off*3) (Array.range l.length).size w:=fun m os dk _ x y =>
   CallOK.grown (β:=β) (sy:=C.G.sy) (ra:=C.G.ra) (ok_TCompare (ctN l x) (ctN_Sm hSm x) (ctN l y)) (vs:=[.agg (enc x).toArray,.agg (enc y).toArray]) ⟨rfl,fun j c v hc hv=>by
    match j,hc,hv with
    | 0,hc,hv=>cases hc;cases hv;exact R.row m os dk x
    | 1,hc,hv=>cases hc;cases hv;exact R.row m os dk y
    | j+2,hc,hv=>simp at hv⟩ (R.tab m os dk)
  rw [q1,← hlen2]
  have hsort:=AnyQ.slices_SortFunc sortT 3 isAgg24 sizeOf24 enc R.len R.one (fun x y=>cmpT (ctN l x) (ctN l y)) (cmpT_swo (ctN l)) 25 #[] b ((β k).off*3) (β k).cap (Array.range l.length) w
   (enters_of func25 (by kernel_rfl) rfl) hcmp R.holds R.lt (by rw [Array.size_range];unfold sm at hlen;omega)
  rw [Array.size_range] at hsort
  refine hsort.mono ?_
  rintro e w' ⟨rfl,d',m,os,hperm,hsorted,rfl⟩
  obtain⟨p1,_,p3⟩:=hperm
  rw [Array.size_range] at p1
  have p4:d'.toList.Perm (List.range l.length):=by
   rw [show d'.extract 0 l.length=d' by rw [← p1];exact Array.extract_size,show (Array.range l.length).extract 0 l.length=Array.range l.length by have:=Array.extract_size (xs:=Array.range l.length);rwa [Array.size_range] at this,Array.toList_range] at p3
   exact p3
  have hps:(d'.toList.map (ctN l)).Perm l:=by
   have h1:=p4.map (ctN l)
   rw [ctN_range] at h1;exact h1
  have hso:(d'.toList.map (ctN l)).Pairwise fun a b=>cmpT a b≤0:=by
   rw [List.pairwise_map,List.pairwise_iff_getElem]
   intro i j hi' hj' hij
   have h1:=hsorted i j (Nat.zero_le _) hij (by rw [← p1];simpa using hj')
   rw [getElem!_pos d' i (by simpa using hi'),getElem!_pos d' j (by simpa using hj')] at h1
   simp only [ltOf,decide_eq_false_iff_not] at h1
   have h2:=cmpT_anti (ctN l d'[i]) (ctN l d'[j])
   have h4:cmpT (ctN l d'[i]) (ctN l d'[j])≤0:=by omega
   simpa using h4
  obtain⟨g1,g2⟩:=R.inv m os d' p1
  exact⟨_,_,_,S,β,⟨rfl,_,hps,hso,rfl⟩,rfl,g1,g2,.tuple [] [] rfl (by simp),fun _ _=>rfl⟩
end Go.Abs
