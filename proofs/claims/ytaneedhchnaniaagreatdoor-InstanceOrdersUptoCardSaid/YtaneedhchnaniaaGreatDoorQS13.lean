/- local names -/
import Derived.Lib.ItoaLen
import Derived.Test.YtaneedhchnaniaaGreatDoorQShelf
import Derived.Test.YtaneedhchnaniaaGreatDoorQAb7
import Derived.Test.YtaneedhchnaniaaGreatDoorQSB
namespace Go.Abs
set_option linter.unusedSimpArgs false
set_option linter.unusedVariables false
open Go Go.Proofs Tryz
set_option maxRecDepth 100000
set_option maxHeartbeats 1000000
theorem Inv.grown {C:Ctx} {S:Nat→Prop} {w:World} {β:Names} {bx:Boxes} (h:Inv C S w β bx)(k:Nat)(os:Array Obj):Inv C S (Sort.grow (w.drewN k) os) β bx∧SExt S w S (Sort.grow (w.drewN k) os) :=
 h.grow (fun _ h=>h) (fun _ h=>.inl h) (fun b hb=>by have:=h.Slt b hb;simp [Sort.grow];omega) (fun b hb=>by simp only [Sort.grow];exact Array.getElem?_append_left hb) rfl rfl rfl (by simp [Sort.grow])
theorem tab_is {C:Ctx} {S:Nat→Prop} {w:World} {β:Names} {bx:Boxes} (h:Inv C S w β bx):Lib.TabIs prog w "internal/strconv.uint64pow10" .u64 Lib.pow10Tab:=by
 obtain⟨_,ty,fr,h1⟩:=h.tab 0 pow10 (.inl ⟨rfl,rfl⟩)
 unfold Lib.TabIs World.var?
 rw [show prog.globalNamed "internal/strconv.uint64pow10" = some 0 by kernel_rfl]
 simp only [Option.bind_some,h1,Option.some.injEq]
 rfl
theorem ok_Itoa (n:Int)(h0:-9223372036854775808≤n)(h1:n≤9223372036854775807):CallOK prog 138 [intV n] (strV (Lib.itoa n)):=by
 refine⟨(Enters.of func138 rfl (by decide)),fun C β vs hi hv=>?_⟩
 obtain⟨v,hv1,hv2⟩:=hv.get (j:=0) (c:=intV n) rfl
 have hvs:vs=[.int .i64 n]:=by
  have hl:=hv.1
  match vs,hl with
  | [u],_=>simp only [List.getElem?_cons_zero,Option.some.injEq] at hv1;subst hv1;rw [hv2.inv_int]
 subst hvs
 refine (Any.strconv_Itoa itoaL n h0 h1 C.w0 (tab_is hi)).mono ?_
 rintro e w' ⟨rfl,k,os,rfl⟩
 obtain⟨q1,_⟩:=hi.grown k os
 exact⟨_,C.S0,β,rfl,q1,.d _ _ (.str _ (by have:=Lib.itoa_length_le n h0 h1;unfold lim;omega))⟩
def localS (i:Nat):Str:=36::Lib.itoa i
theorem itoa_nat (i:Nat):Lib.itoa (i:Int)=Lib.decDigits i:=by unfold Lib.itoa;rw [if_neg (by omega)];rfl
theorem localS_len (i:Nat)(h:i≤sm):(localS i).length≤30:=by
 have:=Lib.itoa_length_le i (by omega) (by unfold sm at h;omega)
 simp only [localS,List.length_cons];omega
theorem ok_Local (i:Nat)(h:i≤sm):CallOK prog 210 [intV i] (strV (localS i)):=by
 have hneg:¬ (i:Int) < 0:=by omega
 have hit:=ok_Itoa i (by omega) (by unfold sm at h;omega)
 have hlen:=Lib.itoa_length_le i (by omega) (by unfold sm at h;omega)
 unfold localS
 generalize Lib.itoa (i:Int)=s at *
 refine cB func210 ?_
 refine sR [0,2,4] ?_
 refine kR1 hneg [0,2,4] fun K1 u1=>?_
 refine kI u1 ?_
 clear u1 K1
 (refine sV [0,2,4] fun K z=>?_;refine cc hit ?_;refine⟨by unfold lim;omega,?_⟩;(try refine ev ?_);apply z;clear z K)
 exact aR
theorem dec_small {n:Nat} (h:n < 10):Lib.decDigits n=[UInt8.ofNat (48+n)]:=by rw [Lib.decDigits,dif_pos h]
theorem dec_big {n:Nat} (h:¬ n < 10):Lib.decDigits n=Lib.decDigits (n / 10)++[UInt8.ofNat (48+n % 10)]:=by rw [Lib.decDigits,dif_neg h]
end Go.Abs
