/- the shelf's strings.Join, Count, CutPrefix; name.Index of what is no local name -/
import Derived.Shelf.Lay
import Derived.Shelf.Strings.OnBuilder
import Derived.Shelf.Strings.Count
import Derived.Shelf.Small.Wraps
import Derived.Shelf.Strconv.ErrVarAll
import Derived.Test.YtaneedhchnaniaaGreatDoorKS13
namespace Go.Abs
set_option linter.all false
open Go Go.Proofs Go.RowKit Go.Lib Go.Sort Tryz
set_option maxRecDepth 100000
set_option maxHeartbeats 1000000
theorem C2a:Builder.Extra prog D1d where
 sizeBuilder:=by kernel_rfl
 liesBuilder:=by kernel_rfl
 t5:=C4.t5
 a5:=run_isAgg_plain C4.t5 rfl
 z5:=C4.z5
 v5:=C4.v5
 infoByte:=by kernel_rfl
 cellsByte:=by kernel_rfl
 sizeByte:=by kernel_rfl
 neB5:=by decide
theorem Inv.below {C:Ctx} {S:Nat→Prop} {w w':World} {β:Names} {bx:Ab} (h:Inv C S w β bx)(b:Below w.heap.size w w'):Inv C S w' β bx :=
 (h.grow (fun _ h=>h) (fun _ h=>.inl h) (fun k E=>Wj (h.Bi k E) b.size) (fun k E=>b.block k E) b.os b.tape b.output b.size).1
theorem F5k (l:List A3)(E:A3)(hl:l.length≤sm)(hj:(Lib.join l E).length≤lim):Ac prog 240 [.d (.slice (C6 l)),C8 E] (C8 (Lib.join l E)):=by
 refine⟨(Enters.of func240 rfl (by decide)),fun C β vs hi hv=>?_⟩;obtain⟨v0,e0,r0⟩:=hv.get (j:=0) rfl;obtain⟨v1,e1,r1⟩:=hv.get (j:=1) rfl;have O:=hv.1
 match vs,O with
 |[a,b],_ =>
  simp only [Iz,Av] at e0;simp only [Ny,Iz,Av] at e1;subst e0;subst e1;have h1:=r1.Gp;cases h1 with
  |str _ hs =>
  have h0:=r0.Gp;have L:∀{a:Value},(Calls prog 240 #[a,.string (mkStr E)] C.w0 fun e w'=>e=.returned (.string (mkStr (Lib.join l E)))∧Below C.w0.heap.size C.w0 w') →
    Calls prog 240 ⟨[a,.string (mkStr E)]⟩ C.w0 (fun e w'=>∃v S' β',e=.returned v∧Inv C S' w' β' []∧Am S' w' β' (C8 (Lib.join l E)) v):=fun Z=>by
   refine Z.mono ?_;rintro e w' ⟨rfl,hb⟩;exact⟨_,C.S0,β,rfl,hi.below hb,.d _ _ (.str _ hj)⟩
  generalize hR:C6 l=R at h0;cases h0 with
  |Ja a cap _ =>
   have:l=[]:=by cases l <;> simp [C6] at hR ⊢
   subst this;refine L ((Any.strings_Join_none C3x C2a a cap (mkStr E) C.w0).mono ?_);rintro e w' ⟨rfl,rfl⟩;exact⟨rfl,Below.refl _ _⟩
  |slice rows b off cap sz hS a3 a1 h3 h4 h5 h6 =>
   subst hR;have I:(C6 l).length=l.length:=by simp [C6]
   by_cases W:l=[]
   ·subst W;refine L ((Any.strings_Join_none C3x C2a (some ⟨b,off,none⟩) cap (mkStr E) C.w0).mono ?_);rintro e w' ⟨rfl,rfl⟩;exact⟨rfl,Below.refl _ _⟩
   ·have a2:sz=1:=by
     cases l with
     |nil=>exact absurd rfl W
     |cons x r=>have:=h3 [.str x] (by simp [C6]);simpa using this.symm
    subst a2;have hd:(l.map mkStr).map (·.data.toList)=l:=by
     rw [Fx]
     conv=>rhs;rw [←List.map_id l]
     refine Hv fun s _=>?_;simp [mkStr]
    have J:(l.map mkStr).length=l.length:=by simp
    have Z:=Any.strings_Join C3x C2a b off cap (l.map mkStr) (mkStr E) C.w0 (fun j x hx=>by rw [D3,Ij] at hx;obtain⟨s,U,rfl⟩:=hx;have a0:=(Ay.1 U).1;obtain⟨v,V⟩:=h5 j 0 (by rw [I];exact a0) (by decide);have:=h6 j 0 [.str s] (.str s) v (by simp [C6,U]) rfl V;cases this;simpa using V) (hi.Bi _ hS) (by rw [J];unfold sm at hl;omega) (by rw [J,←I];exact a1) (by rw [hd,show (mkStr E).data.toList=E by simp [mkStr]];exact hj)
    rw [hd,J,show (mkStr E).data.toList=E by simp [mkStr]] at Z;rw [I];exact L Z
def B3a (s:A3):Bool:=match Lib.atoiAll s with
 |.ok _=>false
 |.range=>false
 |_=>true
theorem G1z (s:A3)(hs:s.length≤sm)(h1:Lib.hasPrefix s [36]=false)(L:B3a s=true):Ac prog 213 [C8 s] (.tuple [A9 0,B0 false]):=by
 refine⟨(Enters.of func213 rfl (by decide)),fun C β vs hi U=>?_⟩;obtain⟨v0,e0,r0⟩:=U.get (j:=0) rfl;have R:=U.1
 match vs,R with
 |[a],_ =>
  simp only [Iz,Av] at e0;subst e0;have h0:=r0.Gp;cases h0 with
  |str _ _ =>
  have E:(mkStr s).data.toList=s:=by simp [mkStr]
  have I:=fun w=>Any.strings_CutPrefix D9m (mkStr s) ⟨#[36]⟩ w;rw [E,show (ByteArray.mk #[36]).data.toList=[36] from rfl,show Lib.trimPrefix s [36]=s by rw [Lib.trimPrefix,A6 (by rw [h1];exact Bool.false_ne_true)],h1] at I;obtain⟨_,ty,fr,V⟩:=hi.D9 4 #[.iface C.G.sy.1 C.G.sy.2] (.inr (.inr (.inr (.inl ⟨rfl,rfl,trivial⟩))))
  have O:C.w0.var? prog "strconv.ErrSyntax" = some #[.iface C.G.sy.1 C.G.sy.2]:=by
   unfold World.var?
   rw [show prog.globalNamed "strconv.ErrSyntax" = some 4 by kernel_rfl]
   simp only [Ao7,V]
  have Z:(mkStr s).size≤281474976710656:=by
   have:(mkStr s).size=s.length:=by simp [mkStr,ByteArray.size]
   unfold sm at hs;omega
  have J:=fun L=>Any.strconv_Atoi_syntax_var C6n (mkStr s) Z (by rw [E];exact L) C.G.sy.1 C.G.sy.2 C.w0 O;unfold B3a at L;generalize W:Lib.atoiAll s=x at L;have W:Lib.atoiAll (mkStr s).data.toList=x:=by rw [E];exact W
  cases x
  ·cases L
  rotate_left
  ·cases L
  have J:=J W;have key:Calls prog 213 #[.string (mkStr s)] C.w0 fun e w'=>e=.returned (.tuple #[.int .i64 0,.bool false])∧Below C.w0.heap.size C.w0 w':=by
   go_enter func213,ntmps213
   go_wp2_with (first| (go_at_call 276;refine (I _).mono ?_;rintro e w' ⟨rfl,hw⟩;rw [hw])| (go_at_call 277;refine J.mono ?_;rintro e w1 ⟨N,rfl,hN,hc,hb⟩))
   go_ret2
   exact⟨rfl,hb⟩
  refine key.mono ?_;rintro e w' ⟨rfl,hb⟩;exact⟨_,C.S0,β,rfl,hi.below hb,.tuple _ _ rfl (by
   intro j c v hc U
   match j with
   | 0=>cases hc;cases U;exact .d _ _ (.int _ _)
   | 1=>cases hc;cases U;exact .d _ _ (.bool _))⟩
end Go.Abs
