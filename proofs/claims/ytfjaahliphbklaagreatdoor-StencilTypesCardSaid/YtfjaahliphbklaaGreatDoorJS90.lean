/- the shelf's strings.Join, Count, CutPrefix; name.Index of what is no local name -/
import Derived.Shelf.Lay
import Derived.Shelf.Strings.OnBuilder
import Derived.Shelf.Strings.Count
import Derived.Shelf.Small.Wraps
import Derived.Shelf.Strconv.ErrVarAll
import Derived.Test.YtfjaahliphbklaaGreatDoorJS13
namespace Go.Abs
set_option linter.unusedSimpArgs false
set_option linter.unusedVariables false
open Go Go.Proofs Go.RowKit Go.Lib Go.Sort Tryz
set_option maxRecDepth 100000
set_option maxHeartbeats 1000000
theorem F2p:Builder.Extra prog joinL_ren where
 sizeBuilder:=by kernel_rfl
 liesBuilder:=by kernel_rfl
 t5:=countL.t5
 a5:=run_isAgg_plain countL.t5 rfl
 z5:=countL.z5
 v5:=countL.v5
 infoByte:=by kernel_rfl
 cellsByte:=by kernel_rfl
 sizeByte:=by kernel_rfl
 neB5:=by decide
theorem Inv.below {C:Ctx} {S:Nat→Prop} {w w':World} {β:A0y} {bx:A0b} (h:Inv C S w β bx)(b:Below w.heap.size w w'):Inv C S w' β bx :=
 (h.grow (fun _ h=>h) (fun _ h=>.inl h) (fun k hk=>Nat.lt_of_lt_of_le (h.Slt k hk) b.size) (fun k hk=>b.block k hk) b.os b.tape b.output b.size).1
theorem E3e (l:List Str)(sep:Str)(hl:l.length≤sm)(hj:(Lib.join l sep).length≤lim):A0a prog 185 [.d (.slice (A2x l)),A2d sep] (A2d (Lib.join l sep)):=by
 refine⟨(A1q.of func185 rfl (by decide)),fun C β vs hi hv=>?_⟩;obtain⟨v0,e0,r0⟩:=hv.get (j:=0) rfl;obtain⟨v1,e1,r1⟩:=hv.get (j:=1) rfl;have hlen:=hv.1
 match vs,hlen with
 | [a,b],_ =>
  simp only [List.getElem?_cons_zero,Option.some.injEq] at e0;simp only [List.getElem?_cons_succ,List.getElem?_cons_zero,Option.some.injEq] at e1;subst e0;subst e1;have h1:=r1.inv_d;cases h1 with
  | str _ hs =>
  have h0:=r0.inv_d;have fin:∀ {a:Value},(Calls prog 185 #[a,.string (A1d sep)] C.w0 fun e w'=>e=.returned (.string (A1d (Lib.join l sep)))∧Below C.w0.heap.size C.w0 w') →
    Calls prog 185 ⟨[a,.string (A1d sep)]⟩ C.w0 (fun e w'=>∃ v S' β',e=.returned v∧Inv C S' w' β' []∧RepV S' w' β' (A2d (Lib.join l sep)) v):=fun hc=>by
   refine hc.mono ?_;rintro e w' ⟨rfl,hb⟩;exact⟨_,C.S0,β,rfl,hi.below hb,.d _ _ (.str _ hj)⟩
  generalize hR:A2x l=R at h0;cases h0 with
  | slice0 a cap _ =>
   have:l=[]:=by cases l <;> simp [A2x] at hR ⊢
   subst this;refine fin ((Any.strings_Join_none joinL F2p a cap (A1d sep) C.w0).mono ?_);rintro e w' ⟨rfl,rfl⟩;exact⟨rfl,Below.refl _ _⟩
  | slice rows b off cap sz hS hl1 hl2 h3 h4 h5 h6 =>
   subst hR;have hrl:(A2x l).length=l.length:=by simp [A2x]
   by_cases hl0:l=[]
   ·subst hl0;refine fin ((Any.strings_Join_none joinL F2p (some ⟨b,off,none⟩) cap (A1d sep) C.w0).mono ?_);rintro e w' ⟨rfl,rfl⟩;exact⟨rfl,Below.refl _ _⟩
   ·have hsz:sz=1:=by
     cases l with
     | nil=>exact absurd rfl hl0
     | cons x r=>have:=h3 [.str x] (by simp [A2x]);simpa using this.symm
    subst hsz;have hd:(l.map A1d).map (·.data.toList)=l:=by
     rw [List.map_map]
     conv=>rhs;rw [← List.map_id l]
     refine List.map_congr_left fun s _=>?_;simp [A1d]
    have hll:(l.map A1d).length=l.length:=by simp
    have hc:=Any.strings_Join joinL F2p b off cap (l.map A1d) (A1d sep) C.w0 (fun j x hx=>by rw [List.getElem?_map,Option.map_eq_some_iff] at hx;obtain⟨s,hs',rfl⟩:=hx;have hj':=(List.getElem?_eq_some_iff.1 hs').1;obtain⟨v,hv'⟩:=h5 j 0 (by rw [hrl];exact hj') (by decide);have:=h6 j 0 [.str s] (.str s) v (by simp [A2x,hs']) rfl hv';cases this;simpa using hv') (hi.Slt _ hS) (by rw [hll];unfold sm at hl;omega) (by rw [hll,← hrl];exact hl2) (by rw [hd,show (A1d sep).data.toList=sep by simp [A1d]];exact hj)
    rw [hd,hll,show (A1d sep).data.toList=sep by simp [A1d]] at hc;rw [hrl];exact fin hc
def F1w (s:Str):Bool:=match Lib.atoiAll s with
 | .ok _=>false
 | .range=>false
 | _=>true
theorem E2t (s:Str)(hs:s.length≤sm)(h1:Lib.hasPrefix s [36]=false)(h2:F1w s=true):A0a prog 148 [A2d s] (.tuple [A0g 0,A0m false]):=by
 refine⟨(A1q.of func148 rfl (by decide)),fun C β vs hi hv=>?_⟩;obtain⟨v0,e0,r0⟩:=hv.get (j:=0) rfl;have hlen:=hv.1
 match vs,hlen with
 | [a],_ =>
  simp only [List.getElem?_cons_zero,Option.some.injEq] at e0;subst e0;have h0:=r0.inv_d;cases h0 with
  | str _ _ =>
  have hdata:(A1d s).data.toList=s:=by simp [A1d]
  have hcut:=fun w=>Any.strings_CutPrefix cutpL (A1d s) ⟨#[36]⟩ w;rw [hdata,show (ByteArray.mk #[36]).data.toList=[36] from rfl,show Lib.trimPrefix s [36]=s by rw [Lib.trimPrefix,if_neg (by rw [h1];exact Bool.false_ne_true)],h1] at hcut;obtain⟨_,ty,fr,htab⟩:=hi.tab 1 #[.iface C.G.sy.1 C.G.sy.2] (.inr (.inr (.inr (.inl ⟨rfl,rfl,trivial⟩))))
  have hvar:C.w0.var? prog "strconv.ErrSyntax" = some #[.iface C.G.sy.1 C.G.sy.2]:=by
   unfold World.var?
   rw [show prog.globalNamed "strconv.ErrSyntax" = some 1 by kernel_rfl]
   simp only [Option.bind_some,htab]
  have hsz:(A1d s).size≤281474976710656:=by
   have:(A1d s).size=s.length:=by simp [A1d,ByteArray.size]
   unfold sm at hs;omega
  have hat:=fun h2=>Any.strconv_Atoi_syntax_var atoiL (A1d s) hsz (by rw [hdata];exact h2) C.G.sy.1 C.G.sy.2 C.w0 hvar;unfold F1w at h2;generalize hx:Lib.atoiAll s=x at h2;have hx:Lib.atoiAll (A1d s).data.toList=x:=by rw [hdata];exact hx
  cases x
  ·cases h2
  rotate_left
  ·cases h2
  have hat:=hat hx;have key:Calls prog 148 #[.string (A1d s)] C.w0 fun e w'=>e=.returned (.tuple #[.int .i64 0,.bool false])∧Below C.w0.heap.size C.w0 w':=by
   go_enter func148,ntmps148
   go_wp2_with (first | (go_at_call 206;refine (hcut _).mono ?_;rintro e w' ⟨rfl,hw⟩;rw [hw]) | (go_at_call 207;refine hat.mono ?_;rintro e w1 ⟨N,rfl,hN,hc,hb⟩))
   go_ret2
   exact⟨rfl,hb⟩
  refine key.mono ?_;rintro e w' ⟨rfl,hb⟩;exact⟨_,C.S0,β,rfl,hi.below hb,.tuple _ _ rfl (by
   intro j c v hc hv
   match j with
   | 0=>cases hc;cases hv;exact .d _ _ (.int _ _)
   | 1=>cases hc;cases hv;exact .d _ _ (.bool _))⟩
end Go.Abs
