/- the order of types and calls -/
import Derived.Test.YtaneedhchnaniaaGreatDoorQU01
import Derived.Test.YtaneedhchnaniaaGreatDoorQS25
import Derived.Test.YtaneedhchnaniaaGreatDoorQSB
import Derived.Test.YtaneedhchnaniaaGreatDoorQDr2
import Derived.Test.YtaneedhchnaniaaGreatDoorQAb21
import Derived.Test.YtaneedhchnaniaaGreatDoorQShelfS
namespace Go.Abs
set_option linter.unusedSimpArgs false
set_option linter.unusedVariables false
open Go Go.Proofs Go.Sort Tryz
set_option maxRecDepth 100000
set_option maxHeartbeats 1000000
def T3 (a b c:Int):Prop:=(a < 0→b≤0→c < 0)∧(a≤0→b < 0→c < 0)∧(a=0→b=0→c=0)
theorem T3.lex {a1 a2 a3 b1 b2 b3:Int} (h:T3 a1 a2 a3)(k:T3 b1 b2 b3):T3 (if a1≠0 then a1 else b1) (if a2≠0 then a2 else b2) (if a3≠0 then a3 else b3):=by
 obtain⟨h1,h2,h3⟩:=h
 obtain⟨k1,k2,k3⟩:=k
 by_cases e1:a1=0 <;> by_cases e2:a2=0 <;> by_cases e3:a3=0 <;> simp only [e1,e2,e3,ne_eq,not_true,not_false_iff,if_true,if_false] <;> refine⟨fun _ _=>?_,fun _ _=>?_,fun _ _=>?_⟩ <;> omega
theorem cmpS_T3 (a b c:Str):T3 (cmpS a b) (cmpS b c) (cmpS a c):=by
 refine⟨fun h1 h2=>?_,fun h1 h2=>?_,fun h1 h2=>?_⟩
 ·by_cases h:cmpS b c=0
  ·rw [cmpS_zero] at h;rw [← h];exact h1
  ·exact cmpS_trans a b c h1 (by omega)
 ·by_cases h:cmpS a b=0
  ·rw [cmpS_zero] at h;rw [h];exact h2
  ·exact cmpS_trans a b c (by omega) h2
 ·rw [cmpS_zero] at h1 h2 ⊢;rw [h1,h2]
theorem cmpTL_T3:∀ l m n:List Ty,(∀ t,t∈l→∀ u v,T3 (cmpT t u) (cmpT u v) (cmpT t v))→T3 (cmpTL l m) (cmpTL m n) (cmpTL l n)
 | [],[],[],_=>by simp [cmpTL,T3]
 | [],[],_::_,_=>by simp [cmpTL,T3]
 | [],_::_,[],_=>by simp [cmpTL,T3]
 | [],_::_,_::_,_=>by simp [cmpTL,T3]
 | _::_,[],[],_=>by simp [cmpTL,T3]
 | _::_,[],_::_,_=>by simp [cmpTL,T3]
 | _::_,_::_,[],_=>by simp only [cmpTL];exact⟨fun _ h=>by omega,fun _ h=>by omega,fun _ h=>by omega⟩
 | x::xs,y::ys,z::zs,h=>by
  rw [cmpTL,cmpTL,cmpTL]
  exact (h x (by simp) y z).lex (cmpTL_T3 xs ys zs fun t ht=>h t (by simp [ht]))
theorem cmpT_T3 (t:Ty):∀ u v,T3 (cmpT t u) (cmpT u v) (cmpT t v):=by
 induction t using Ty.induct with
 | h t ih =>
 intro u v
 rw [cmpT_eq,cmpT_eq,cmpT_eq]
 exact (cmpS_T3 _ _ _).lex (cmpTL_T3 _ _ _ ih)
theorem cmpTL_anti:∀ l m:List Ty,(∀ t,t∈l→∀ u,cmpT u t = - cmpT t u)→cmpTL m l = - cmpTL l m
 | [],[],_=>by simp [cmpTL]
 | [],_::_,_=>by simp [cmpTL]
 | _::_,[],_=>by simp [cmpTL]
 | x::xs,y::ys,h=>by
  rw [cmpTL,cmpTL,h x (by simp) y,cmpTL_anti xs ys fun t ht=>h t (by simp [ht])]
  by_cases e:cmpT x y=0 <;> simp [e]
theorem cmpT_anti (t:Ty):∀ u,cmpT u t = - cmpT t u:=by
 induction t using Ty.induct with
 | h t ih =>
 intro u
 rw [cmpT_eq,cmpT_eq,cmpS_anti t.name u.name,cmpTL_anti _ _ ih]
 by_cases e:cmpS t.name u.name=0 <;> simp [e]
theorem cmpC_lex (a b:CallT):cmpC a b=if cmpT a.on b.on≠0 then cmpT a.on b.on else if cmpS a.name b.name≠0 then cmpS a.name b.name else cmpT (.mk [] a.targs 0) (.mk [] b.targs 0):=by
 unfold cmpC
 by_cases e:cmpT a.on b.on=0 <;> by_cases k:cmpS a.name b.name=0 <;> simp [e,k]
theorem cmpC_T3 (a b c:CallT):T3 (cmpC a b) (cmpC b c) (cmpC a c):=by
 rw [cmpC_lex,cmpC_lex,cmpC_lex]
 exact (cmpT_T3 _ _ _).lex ((cmpS_T3 _ _ _).lex (cmpT_T3 _ _ _))
theorem cmpC_anti (a b:CallT):cmpC b a = - cmpC a b:=by
 rw [cmpC_lex,cmpC_lex,cmpT_anti a.on b.on,cmpS_anti a.name b.name,cmpT_anti (.mk [] a.targs 0) (.mk [] b.targs 0)]
 by_cases e:cmpT a.on b.on=0 <;> by_cases k:cmpS a.name b.name=0 <;> simp [e,k]
theorem cmpC_refl (a:CallT):cmpC a a=0:=by have:=cmpC_anti a a;omega
theorem cmpC_le {a b c:CallT} (h1:cmpC a b≤0)(h2:cmpC b c≤0):cmpC a c≤0:=by
 obtain⟨k1,k2,k3⟩:=cmpC_T3 a b c
 by_cases e:cmpC a b=0
 ·by_cases k:cmpC b c=0
  ·have:=k3 e k;omega
  ·have:=k2 h1 (by omega);omega
 ·have:=k1 (by omega) h2;omega
theorem cmpC_swo {α:Type} (c:α→CallT):SWO (ltOf fun x y:α=>cmpC (c x) (c y)) where
 irrefl x:=by simp [ltOf,cmpC_refl]
 trans x y z h1 h2:=by
  simp only [ltOf,decide_eq_true_eq] at *
  exact (cmpC_T3 (c x) (c y) (c z)).1 h1 (by omega)
 ntrans x y z h1 h2:=by
  simp only [ltOf,decide_eq_false_iff_not] at *
  have a1:=cmpC_anti (c x) (c y)
  have a2:=cmpC_anti (c y) (c z)
  have a3:=cmpC_anti (c x) (c z)
  have:=cmpC_le (a:=c z) (b:=c y) (c:=c x) (by omega) (by omega)
  omega
open Go Go.Proofs Tryz
set_option maxHeartbeats 2000000
def orL:List Int→Int
 | []=>0
 | a::l=>if a≠0 then a else orL l
def inR (l:List Int):List (List D):=l.map fun a=>[D.int .i64 a]
abbrev q1rx:List Nat:=[0,2,3,5,6,7,8,9,14]
theorem ok_OrL (l:List Int)(hl:l.length≤sm):CallOK prog 24 [.d (.slice (inR l))] (intV (orL l)):=by
 have hget:∀ {j:Nat} {d:Int},l[j]? = some d→(inR l)[j]? = some [D.int .i64 d]:=by intro j d h;simp [inR,h]
 have hlen:(inR l).length=l.length:=by simp [inR]
 generalize hR:orL l=R
 refine cB func24 ?_
 refine sR q1rx ?_
 refine sR q1rx ?_
 refine kR1 hlen q1rx fun K1 u1=>?_
 refine AWp.block (AWp.forIdx l (X:=Unit) (fun j _=>[(3,intV 0),(6,.d (.slice (inR l))),(7,intV l.length),(8,intV j)]) (fun _ _=>[])
  (fun j _=>orL (l.drop j)=R) () (by simpa using hR) sS sB ?_ ?_)
 ·intro _ hI
  rw [List.drop_length,orL] at hI
  subst hI
  refine sR1 Int.lt_irrefl q1rx ?_
  refine AWp.stop rfl ?_
  simp only [thenA,blockA,if_true]
  refine u1 _ _ ?_
  refine sR q1rx ?_
  exact aR
 ·intro j _ d hd hmem dp tk hlt hI
  rw [dp,orL] at hI
  refine sR1 hlt q1rx ?_
  refine AWp.goOn rfl ?_
  refine sK fun K2 u2=>?_
  refine AWp.block ?_
  (refine sV q1rx fun K z=>?_;refine ci (hget hd) ?_;apply z;clear z K)
  by_cases h0:d=0
  ·subst h0
   rw [if_neg (by simp)] at hI
   refine sR q1rx ?_
   refine AWp.condF rfl (AWp.skip (u2 _ _ ?_))
   clear u2 K2
   refine lT q1rx ?_
   exact⟨(),hI,sS,sB⟩
  ·rw [if_pos h0] at hI
   subst hI
   refine sR1 h0 q1rx ?_
   refine AWp.condT rfl ?_
   refine sR q1rx ?_
   exact aR
theorem ok_ICompare (a:CallT)(ha:a.Sm)(b:CallT):CallOK prog 8 [caV a,caV b] (intV (cmpC a b)):=by
 have h1:=ok_TCompare a.on ha.on b.on
 have h2:=ok_nameCompare a.name b.name
 have h3:=ok_CompareFunc 25 a.targs b.targs ha.targs.1 fun t ht u=>ok_TCompare t (ha.targs.2 t ht) u
 have h4:=ok_OrL [cmpT a.on b.on,cmpS a.name b.name,cmpTL a.targs b.targs] (by simp [sm])
 have e:orL [cmpT a.on b.on,cmpS a.name b.name,cmpTL a.targs b.targs]=cmpC a b:=by
  have e0:cmpT (.mk [] a.targs 0) (.mk [] b.targs 0)=cmpTL a.targs b.targs:=by
   rw [cmpT_eq]
   have:cmpS (Ty.mk [] a.targs 0).name (Ty.mk [] b.targs 0).name=0:=cmpS_zero.2 rfl
   rw [if_neg (by simp [this])];rfl
  rw [cmpC_lex,e0]
  simp only [orL]
  by_cases e3:cmpTL a.targs b.targs=0 <;> simp [e3]
 rw [e] at h4
 simp only [inR,List.map_cons,List.map_nil] at h4
 generalize cmpC a b=R at *
 generalize cmpT a.on b.on=x at *
 generalize cmpS a.name b.name=y at *
 generalize cmpTL a.targs b.targs=z at *
 refine cB func8 ?_
 refine sR [0,1,2,3,4] ?_
 (refine sG [0,1,2,3,4] [] 14 [] fun K z=>?_;refine ev ?_;refine cc h1 ?_;refine cc h2 ?_;refine cc h3 ?_;refine cc h4 ?_;apply z;clear z K)
 exact aR
theorem ok_Methods1 (a:CallT)(ha:a.Sm)(b:CallT):CallOK prog 68 [caV a,caV b] (boolV (decide (cmpC a b=0))):=by
 have h1:=ok_ICompare a ha b
 generalize cmpC a b=R at *
 by_cases h:R=0
 ·subst h
  simp only [decide_true]
  refine cB func68 ?_
  refine sR [0,1,2,3,4] ?_
  refine sC h1 [0,1,2,3,4] ?_
  exact aR
 ·rw [decide_eq_false h]
  refine cB func68 ?_
  refine sR [0,1,2,3,4] ?_
  (refine sV [0,1,2,3,4] fun K z=>?_;refine⟨_,.inl ⟨_,rfl,h1,rfl⟩,?_⟩;(try simp -implicitDefEqProofs only [EV,Nat.reduceEqDiff,reduceCtorEq,h]);apply z;clear z K)
  exact aR
open Go Go.Proofs Go.Sort Tryz
set_option maxHeartbeats 1000000
instance:Inhabited CallT:=⟨⟨.mk [] [] 0,[],[]⟩⟩
theorem callT_default:(default:CallT).Sm:=⟨.mk _ _ _ (by simp) (by simp) (by simp),by simp [default],by simp [default],by simp [default]⟩
def ccN (l:List CallT)(i:Nat):CallT:=(l[i]?).getD default
structure RowsW (C:Ctx)(S:Nat→Prop)(w:World) (β:Names)(bx:Boxes)(k:Nat)(l:List CallT)(b:Nat)(enc:Nat→List Value):Prop where
 len:∀ i,(enc i).length=5
 one:∀ i,∀ v∈enc i,v.oneCell'=true
 zero:enc l.length=[.string ⟨#[]⟩,.slice none 0 0,.int .i64 0,.string ⟨#[]⟩,.slice none 0 0]
 lt:b < w.heap.size
 holds:HoldsK enc 5 w b ((β k).off*5) (Array.range l.length)
 row:∀ (m:Nat) (os:Array Obj) (dk:Array Nat) (i:Nat),RepV (all (sortWorldK enc 5 w b ((β k).off*5) m dk os)) (sortWorldK enc 5 w b ((β k).off*5) m dk os) β (caV (ccN l i)) (.agg (enc i).toArray)
 tab:∀ (m:Nat) (os:Array Obj) (dk:Array Nat) b' cs,fixedRow C.G.sy C.G.ra b' cs→∃ ty fr,(sortWorldK enc 5 w b ((β k).off*5) m dk os).heap[b']? = some (.cells cs ty fr)
 inv:∀ (m:Nat) (os:Array Obj) (dk:Array Nat),dk.size=l.length→Inv C S (sortWorldK enc 5 w b ((β k).off*5) m dk os) β ((k,.rows 5 (caR (dk.toList.map (ccN l))))::berase k bx)∧SExt S w S (sortWorldK enc 5 w b ((β k).off*5) m dk os)
theorem rowsW {C:Ctx} {S:Nat→Prop} {w:World} {β:Names} {bx:Boxes} {k:Nat} {l:List CallT} {b:Nat} (hi:Inv C S w β bx)(hbm:(k,BoxC.rows 5 (caR l))∈bx)(hbase:(β k).base=some b):∃ enc,RowsW C S w β bx k l b enc:=by
 obtain⟨q1,q2,q3,q4,q5,q6,q7⟩:=hi.box k _ hbm
 rw [hbase] at q7
 simp only at q7
 have hlen2:l.length=(β k).len:=by rw [← q2];simp [caR]
 obtain⟨ty,vs,hh,hcap,hrep⟩:=q7
 obtain⟨n,hn0⟩:∃ n,n=l.length:=⟨_,rfl⟩
 have hS:=hi.priv k _ hbm b hbase
 have hin:∀ i,i < n→((β k).off+i)*5+5≤vs.length:=fun i h=>by
  have h1:((β k).off+i+1)*5≤((β k).off+(β k).cap)*5:=Nat.mul_le_mul_right _ (by omega)
  omega
 let enc:Nat→List Value:=fun i=>if i < n then (vs.drop (((β k).off+i)*5)).take 5 else [.string ⟨#[]⟩,.slice none 0 0,.int .i64 0,.string ⟨#[]⟩,.slice none 0 0]
 have encLen:∀ i,(enc i).length=5:=fun i=>by
  simp only [enc]
  split
  ·rename_i h
   have:=hin i h
   rw [List.length_take,List.length_drop];omega
  ·rfl
 have encGet:∀ i j,i < n→j < 5→(enc i)[j]? = vs[((β k).off+i)*5+j]?:=fun i j h hj=>by
  simp only [enc,if_pos h]
  rw [List.getElem?_take_of_lt hj,List.getElem?_drop]
 have encRep:∀ i j d v,(caC (ccN l i))[j]? = some d→(enc i)[j]? = some v→RepC S w d v:=fun i j d v hd he=>by
  have hj:j < 5:=by have:=(List.getElem?_eq_some_iff.1 he).1;rw [encLen] at this;exact this
  by_cases h:i < n
  ·have hs:l[i]? = some (l[i]'(by omega)):=List.getElem?_eq_getElem _
   have hc:ccN l i=l[i]'(by omega):=by simp only [ccN,hs,Option.getD_some]
   rw [hc] at hd
   rw [encGet i j h hj] at he
   exact hrep i j _ d v (caR_get hs) hd he
  ·have hc:ccN l i=default:=by simp only [ccN,List.getElem?_eq_none (show l.length≤i by omega),Option.getD_none]
   rw [hc] at hd
   simp only [enc,if_neg h] at he
   match j,hd,he with
   | 0,hd,he=>cases hd;cases he;exact .str [] (by simp)
   | 1,hd,he=>cases hd;cases he;exact .slice0 _ _ (by simp)
   | 2,hd,he=>cases hd;cases he;exact .int _ _
   | 3,hd,he=>cases hd;cases he;exact .str [] (by simp)
   | 4,hd,he=>cases hd;cases he;exact .slice0 _ _ (by simp)
   | j+5,hd,he=>simp at he
 have caOne:∀ (c:CallT) (d:D),d∈caC c→d.one=true:=fun c d hd=>by
  simp only [caC,List.mem_cons,List.not_mem_nil,or_false] at hd
  rcases hd with rfl | rfl | rfl | rfl | rfl <;> rfl
 have encOne:∀ i,∀ v∈enc i,v.oneCell'=true:=fun i v hv=>by
  obtain⟨j,hj⟩:=List.getElem?_of_mem hv
  have hl:j < (caC (ccN l i)).length:=by
   have:=(List.getElem?_eq_some_iff.1 hj).1
   rw [encLen] at this;exact this
  exact (encRep i j _ v (List.getElem?_eq_getElem hl) hj).one (caOne _ _ (List.getElem_mem _))
 have hold:∀ m os dk b',b' < w.heap.size→b'≠b→(sortWorldK enc 5 w b ((β k).off*5) m dk os).heap[b']? = w.heap[b']?:=fun m os dk b' hl hne=>by
  simp only [sortWorldK,Sort.grow]
  rw [Array.getElem?_append_left (by simp [putRowK,putRow,mapBlock,Sort.ahead];exact hl)]
  simp [putRowK,putRow,mapBlock,Sort.ahead,Array.getElem?_modify,Ne.symm hne]
 have hsz:∀ m os dk,w.heap.size≤(sortWorldK enc 5 w b ((β k).off*5) m dk os).heap.size:=fun m os dk=>size_sortWorldK_c enc 5 w b _ m dk os
 have hW:∀ m os dk,SExt S w (all (sortWorldK enc 5 w b ((β k).off*5) m dk os)) (sortWorldK enc 5 w b ((β k).off*5) m dk os):=fun m os dk =>
  ⟨fun b' hb'=>Nat.lt_of_lt_of_le (hi.Slt b' hb') (hsz m os dk),fun b' hb'=>hold m os dk b' (hi.Slt b' hb') fun he=>hS.1 (he ▸ hb')⟩
 refine⟨enc,encLen,encOne,?_,hS.2.1,?_,fun m os dk i=>?_,fun m os dk b' cs hf=>?_,fun m os dk hdk=>?_⟩
 ·simp only [enc,if_neg (show ¬ l.length < n by omega)]
 ·intro j hj
  rw [size_flatK,Array.size_range] at hj
  have hj7:j / 5 < n:=by omega
  have hfl:(flatK enc 5 (Array.range l.length))[j]! = (enc (j / 5))[j % 5]!:=by
   rw [get_flatK _ _ _ _ (by rw [Array.size_range];exact hj)]
   congr 2
   rw [getElem!_pos _ _ (by rw [Array.size_range];omega),Array.getElem_range]
  have hlt:=hin (j / 5) hj7
  have hpos:((β k).off+j / 5)*5+j % 5=(β k).off*5+j:=by omega
  have hlt2:(β k).off*5+j < vs.length:=by omega
  have hen:(enc (j / 5))[j % 5]! = vs[(β k).off*5+j]:=by
   have:=encGet (j / 5) (j % 5) hj7 (Nat.mod_lt _ (by decide))
   rw [hpos,List.getElem?_eq_getElem hlt2] at this
   rw [List.getElem!_eq_getElem?_getD,this];rfl
  refine⟨?_,?_⟩
  ·simp only [World.cell?,hh,Option.isSome_none,id,hfl,hen]
   simp [hlt2]
  ·simp [World.frozen?,hh]
 ·show RepV _ _ _ (.agg ((caC (ccN l i)).map SV.d)) _
  refine RepV.agg_of ⟨by rw [encLen];rfl,fun j c v hc hv=>?_⟩ rfl
  rw [List.getElem?_map,Option.map_eq_some_iff] at hc
  obtain⟨d,hd,rfl⟩:=hc
  exact .d _ _ ((encRep i j d v hd hv).ext (hW m os dk))
 ·obtain⟨h1,ty',fr,h2⟩:=hi.tab b' cs hf
  exact⟨ty',fr,((hW m os dk).same b' h1).trans h2⟩
 ·have hnew:BoxOK S (putRowK enc 5 (Sort.ahead w m) b ((β k).off*5) dk) β (β k) (.rows 5 (caR (dk.toList.map (ccN l)))):=by
   refine⟨q1,by simp only [caR,List.length_map,Array.length_toList];omega,q3,by simp only [caR,List.length_map,Array.length_toList];simp only [caR,List.length_map] at q4;omega,?_,?_,?_⟩
   ·intro row hr
    obtain⟨s,_,rfl⟩:=List.mem_map.1 hr;rfl
   ·intro row hr d hd
    obtain⟨s,hs,rfl⟩:=List.mem_map.1 hr
    exact caOne s d hd
   ·rw [hbase]
    refine⟨ty,(putCells id ((β k).off*5) (flatK enc 5 dk) ⟨vs⟩).toList,?_,by simpa [putCells] using hcap,?_⟩
    ·simp [putRowK,putRow,mapBlock,Sort.ahead,Array.getElem?_modify,hh,onCells]
    ·intro r j row d v hr hd hv
     have hrd:r < dk.size:=by have:=(List.getElem?_eq_some_iff.1 hr).1;simpa [caR] using this
     have hrow:row=caC (ccN l dk[r]):=by
      simp only [caR,List.getElem?_map,Array.getElem?_toList,Array.getElem?_eq_getElem hrd,Option.map_some,Option.some.injEq] at hr
      exact hr.symm
     subst hrow
     have hj:j < 5:=by have:=(List.getElem?_eq_some_iff.1 hd).1;exact this
     have hflat:(flatK enc 5 dk)[r*5+j]! = (enc dk[r])[j]!:=by
      rw [get_flatK _ _ _ _ (by omega),show (r*5+j) / 5=r by omega,show (r*5+j) % 5=j by omega,getElem!_pos dk r hrd]
     have hin':=hin r (by omega)
     have hlt:((β k).off+r)*5+j < vs.length:=by omega
     have hve:(enc dk[r])[j]? = some v:=by
      rw [Array.getElem?_toList,putCells,Array.getElem?_mapIdx] at hv
      have hc:(⟨vs⟩:Array Value)[((β k).off+r)*5+j]? = some vs[((β k).off+r)*5+j]:=by simp [hlt]
      rw [hc,Option.map_some,if_pos ⟨by omega,by rw [size_flatK];omega⟩,show ((β k).off+r)*5+j - (β k).off*5=r*5+j by omega,hflat] at hv
      have hje:j < (enc dk[r]).length:=by rw [encLen];exact hj
      rw [List.getElem?_eq_getElem hje]
      simp only [id,Option.some.injEq] at hv
      rw [← hv,getElem!_pos (enc dk[r]) j hje]
     exact (encRep _ j d v hd hve).ext ⟨fun _ h=>h,fun b' hb'=>by
      have hne:b≠b':=fun he=>hS.1 (he ▸ hb')
      simp [putRowK,putRow,mapBlock,Sort.ahead,Array.getElem?_modify,hne]⟩
  obtain⟨g1,g2⟩:=hi.setSame (w':=putRowK enc 5 (Sort.ahead w m) b ((β k).off*5) dk) (c:=.rows 5 (caR (dk.toList.map (ccN l)))) hbm hbase (fun b' hne=>by
   simp [putRowK,putRow,mapBlock,Sort.ahead,Array.getElem?_modify,Ne.symm hne]) rfl rfl rfl (by simp [putRowK,putRow,mapBlock,Sort.ahead]) hnew
  obtain⟨g3,g4⟩:=g1.grow (S':=S) (w':=Sort.grow (putRowK enc 5 (Sort.ahead w m) b ((β k).off*5) dk) os) (fun _ h=>h) (fun _ h=>.inl h)
   (fun b' hb'=>by have:=g1.Slt b' hb';simp only [Sort.grow,Array.size_append];omega) (fun b' hb'=>by simp only [Sort.grow];exact Array.getElem?_append_left hb') rfl rfl rfl (by simp [Sort.grow])
  exact⟨g3,g2.trans g4⟩
theorem ccN_Sm {l:List CallT} (hSm:∀ c,c∈l→c.Sm)(i:Nat):(ccN l i).Sm:=by
 unfold ccN
 cases hs:l[i]? with
 | none=>exact callT_default
 | some s=>exact hSm s (List.mem_of_getElem? hs)
theorem ccN_range (l:List CallT):(List.range l.length).map (ccN l)=l:=by
 refine List.ext_getElem? fun i=>?_
 rw [List.getElem?_map]
 by_cases h:i < l.length
 ·rw [List.getElem?_range h,Option.map_some,List.getElem?_eq_getElem h]
  simp only [ccN,List.getElem?_eq_getElem h,Option.getD_some]
 ·rw [List.getElem?_eq_none (by simp;omega),List.getElem?_eq_none (by omega)];rfl
theorem opP_sortC {sl:SL} {bx:Boxes} {x y:Operand} {tys:List TypeId} {o:Oper} (k:Nat)(l:List CallT)(ho:o.op=.call ⟨.value (.func 66),[x,y].toArray,tys.toArray⟩)(hx:opnd sl x=.acc k)(hy:opnd sl y=.clo 8 [])(hb:bget bx k=some (.rows 5 (caR l)))(hlen:l.length≤sm)(hSm:∀ c,c∈l→c.Sm) :
  OpP prog o (opnd sl) bx fun r bx'=>r=.tuple []∧∃ l':List CallT,l'.Perm l∧l'.Pairwise (fun a b=>cmpC a b≤0)∧bx'=(k,.rows 5 (caR l'))::berase k bx:=by
 intro C S w β a hi ha
 have hE:Enters prog 66:=(Enters.of func66 rfl (by decide))
 have hx1:=ha x (mC ho)
 rw [hx] at hx1
 have hbm:=mem_of_bget hb
 obtain⟨q1,q2,q3,q4,q5,q6,q7⟩:=hi.box k _ hbm
 generalize hv:a.eval x=v at hx1
 cases hx1
 have hy2:a.eval y=.func (.func 8) #[] #[]:=by
  have hy1:=ha y (mC ho)
  rw [hy] at hy1
  generalize a.eval y=u at hy1
  cases hy1 with
  | clo _ _ vs h1 _=>rw [List.length_eq_zero_iff.1 h1]
 have hfv:a.eval (.func 66)=.func (.func 66) #[] #[]:=rfl
 refine Or.inl ?_
 unfold Oper.wp
 rw [run_enter hE ho hfv,Oper.upon_enter]
 have hlen2:l.length=(β k).len:=by rw [← q2];simp [caR]
 have hcbs:([x,y].toArray.map a.eval)++(#[]:Array Value) = #[.slice ((β k).base.map fun b=>⟨b,(β k).off*(β k).sz,none⟩) (β k).len (β k).cap,.func (.func 8) #[] #[]]:=by
  apply Array.ext'
  rw [Array.toList_append,Array.toList_map]
  show [a.eval x,a.eval y]++[]=_
  rw [hv,hy2];rfl
 rw [hcbs]
 clear hcbs
 generalize hbase:(β k).base=ob at q7
 cases ob with
 | none =>
  simp only at q7
  have hl0:l=[]:=List.eq_nil_of_length_eq_zero (by omega)
  subst hl0
  rw [show (β k).len=0 by omega]
  refine (AnyF.slices_SortFunc_none sortC _ _ _ w).mono ?_
  rintro e w' ⟨rfl,rfl⟩
  refine⟨_,_,_,S,β,⟨rfl,[],.refl _,.nil,rfl⟩,rfl,hi.sub fun j c hj=>?_,SExt.refl S _,.tuple [] [] rfl (by simp),fun _ _=>rfl⟩
  rcases List.mem_cons.1 hj with h | h
  ·rw [h];exact hbm
  ·exact (mem_berase.1 h).2
 | some b =>
  obtain⟨enc,R⟩:=rowsW hi hbm hbase
  have hcmp:CmpLays prog 8 #[] enc 5 (fun x y=>cmpC (ccN l x) (ccN l y)) b ((β k).off*5) (Array.range l.length).size w:=fun m os dk _ x y =>
   CallOK.grown (β:=β) (sy:=C.G.sy) (ra:=C.G.ra) (ok_ICompare (ccN l x) (ccN_Sm hSm x) (ccN l y)) (vs:=[.agg (enc x).toArray,.agg (enc y).toArray]) ⟨rfl,fun j c v hc hv=>by
    match j,hc,hv with
    | 0,hc,hv=>cases hc;cases hv;exact R.row m os dk x
    | 1,hc,hv=>cases hc;cases hv;exact R.row m os dk y
    | j+2,hc,hv=>simp at hv⟩ (R.tab m os dk)
  rw [q1,← hlen2]
  have hsort:=AnyQ.slices_SortFunc sortC 5 isAgg31 sizeOf31 enc R.len R.one (fun x y=>cmpC (ccN l x) (ccN l y)) (cmpC_swo (ccN l)) 8 #[] b ((β k).off*5) (β k).cap (Array.range l.length) w
   (enters_of func8 (by kernel_rfl) rfl) hcmp R.holds R.lt (by rw [Array.size_range];unfold sm at hlen;omega)
  rw [Array.size_range] at hsort
  refine hsort.mono ?_
  rintro e w' ⟨rfl,d',m,os,hperm,hsorted,rfl⟩
  obtain⟨p1,_,p3⟩:=hperm
  rw [Array.size_range] at p1
  have p4:d'.toList.Perm (List.range l.length):=by
   rw [show d'.extract 0 l.length=d' by rw [← p1];exact Array.extract_size,show (Array.range l.length).extract 0 l.length=Array.range l.length by have:=Array.extract_size (xs:=Array.range l.length);rwa [Array.size_range] at this,Array.toList_range] at p3
   exact p3
  have hps:(d'.toList.map (ccN l)).Perm l:=by
   have h1:=p4.map (ccN l)
   rw [ccN_range] at h1;exact h1
  have hso:(d'.toList.map (ccN l)).Pairwise fun a b=>cmpC a b≤0:=by
   rw [List.pairwise_map,List.pairwise_iff_getElem]
   intro i j hi' hj' hij
   have h1:=hsorted i j (Nat.zero_le _) hij (by rw [← p1];simpa using hj')
   rw [getElem!_pos d' i (by simpa using hi'),getElem!_pos d' j (by simpa using hj')] at h1
   simp only [ltOf,decide_eq_false_iff_not] at h1
   have h2:=cmpC_anti (ccN l d'[i]) (ccN l d'[j])
   have h4:cmpC (ccN l d'[i]) (ccN l d'[j])≤0:=by omega
   simpa using h4
  obtain⟨g1,g2⟩:=R.inv m os d' p1
  exact⟨_,_,_,S,β,⟨rfl,_,hps,hso,rfl⟩,rfl,g1,g2,.tuple [] [] rfl (by simp),fun _ _=>rfl⟩
end Go.Abs
