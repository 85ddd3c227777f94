/- the shelf's strings.Join, Count, CutPrefix; name.Index of what is no local name -/
import Derived.Shelf.Lay
import Derived.Shelf.Strings.OnBuilder
import Derived.Shelf.Strings.Count
import Derived.Shelf.Small.Wraps
import Derived.Shelf.Strconv.ErrVarAll
import Derived.Test.YtaneedhchnaniaaGreatDoorQShelf
import Derived.Test.YtaneedhchnaniaaGreatDoorQS13
namespace Go.Abs
set_option linter.unusedSimpArgs false
set_option linter.unusedVariables false
open Go Go.Proofs Go.RowKit Go.Lib Go.Sort Tryz
set_option maxRecDepth 100000
set_option maxHeartbeats 1000000
theorem extraJ:Builder.Extra prog joinL_ren where
 sizeBuilder:=by kernel_rfl
 liesBuilder:=by kernel_rfl
 t5:=countL.t5
 a5:=run_isAgg_plain countL.t5 rfl
 z5:=countL.z5
 v5:=countL.v5
 infoByte:=by kernel_rfl
 cellsByte:=by kernel_rfl
 sizeByte:=by kernel_rfl
 neB5:=by decide
theorem Inv.below {C:Ctx} {S:Nat→Prop} {w w':World} {β:Names} {bx:Boxes} (h:Inv C S w β bx)(b:Below w.heap.size w w'):Inv C S w' β bx :=
 (h.grow (fun _ h=>h) (fun _ h=>.inl h) (fun k hk=>Nat.lt_of_lt_of_le (h.Slt k hk) b.size) (fun k hk=>b.block k hk) b.os b.tape b.output b.size).1
theorem ok_strJoin (l:List Str)(sep:Str)(hl:l.length≤sm)(hj:(Lib.join l sep).length≤lim):CallOK prog 240 [.d (.slice (strR l)),strV sep] (strV (Lib.join l sep)):=by
 refine⟨(Enters.of func240 rfl (by decide)),fun C β vs hi hv=>?_⟩
 obtain⟨v0,e0,r0⟩:=hv.get (j:=0) rfl
 obtain⟨v1,e1,r1⟩:=hv.get (j:=1) rfl
 have hlen:=hv.1
 match vs,hlen with
 | [a,b],_ =>
  simp only [List.getElem?_cons_zero,Option.some.injEq] at e0
  simp only [List.getElem?_cons_succ,List.getElem?_cons_zero,Option.some.injEq] at e1
  subst e0;subst e1
  have h1:=r1.inv_d
  cases h1 with
  | str _ hs =>
  have h0:=r0.inv_d
  have fin:∀ {a:Value},(Calls prog 240 #[a,.string (mkStr sep)] C.w0 fun e w'=>e=.returned (.string (mkStr (Lib.join l sep)))∧Below C.w0.heap.size C.w0 w') →
    Calls prog 240 ⟨[a,.string (mkStr sep)]⟩ C.w0 (fun e w'=>∃ v S' β',e=.returned v∧Inv C S' w' β' []∧RepV S' w' β' (strV (Lib.join l sep)) v):=fun hc=>by
   refine hc.mono ?_
   rintro e w' ⟨rfl,hb⟩
   exact⟨_,C.S0,β,rfl,hi.below hb,.d _ _ (.str _ hj)⟩
  generalize hR:strR l=R at h0
  cases h0 with
  | slice0 a cap _ =>
   have:l=[]:=by cases l <;> simp [strR] at hR ⊢
   subst this
   refine fin ((Any.strings_Join_none joinL extraJ a cap (mkStr sep) C.w0).mono ?_)
   rintro e w' ⟨rfl,rfl⟩
   exact⟨rfl,Below.refl _ _⟩
  | slice rows b off cap sz hS hl1 hl2 h3 h4 h5 h6 =>
   subst hR
   have hrl:(strR l).length=l.length:=by simp [strR]
   by_cases hl0:l=[]
   ·subst hl0
    refine fin ((Any.strings_Join_none joinL extraJ (some ⟨b,off,none⟩) cap (mkStr sep) C.w0).mono ?_)
    rintro e w' ⟨rfl,rfl⟩
    exact⟨rfl,Below.refl _ _⟩
   ·have hsz:sz=1:=by
     cases l with
     | nil=>exact absurd rfl hl0
     | cons x r=>have:=h3 [.str x] (by simp [strR]);simpa using this.symm
    subst hsz
    have hd:(l.map mkStr).map (·.data.toList)=l:=by
     rw [List.map_map]
     conv=>rhs;rw [← List.map_id l]
     refine List.map_congr_left fun s _=>?_
     simp [mkStr]
    have hll:(l.map mkStr).length=l.length:=by simp
    have hc:=Any.strings_Join joinL extraJ b off cap (l.map mkStr) (mkStr sep) C.w0 (fun j x hx=>by
     rw [List.getElem?_map,Option.map_eq_some_iff] at hx
     obtain⟨s,hs',rfl⟩:=hx
     have hj':=(List.getElem?_eq_some_iff.1 hs').1
     obtain⟨v,hv'⟩:=h5 j 0 (by rw [hrl];exact hj') (by decide)
     have:=h6 j 0 [.str s] (.str s) v (by simp [strR,hs']) rfl hv'
     cases this
     simpa using hv') (hi.Slt _ hS) (by rw [hll];unfold sm at hl;omega) (by rw [hll,← hrl];exact hl2) (by rw [hd,show (mkStr sep).data.toList=sep by simp [mkStr]];exact hj)
    rw [hd,hll,show (mkStr sep).data.toList=sep by simp [mkStr]] at hc
    rw [hrl]
    exact fin hc
def noNum (s:Str):Bool:=match Lib.atoiAll s with
 | .ok _=>false
 | .range=>false
 | _=>true
end Go.Abs
