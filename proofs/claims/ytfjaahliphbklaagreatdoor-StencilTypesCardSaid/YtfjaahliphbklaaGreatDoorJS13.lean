/- local names -/
import Derived.Lib.ItoaLen
import Derived.Test.YtfjaahliphbklaaGreatDoorJShelf
import Derived.Test.YtfjaahliphbklaaGreatDoorJAb7
import Derived.Test.YtfjaahliphbklaaGreatDoorJSB
namespace Go.Abs
set_option linter.unusedSimpArgs false
set_option linter.unusedVariables false
open Go Go.Proofs Tryz
set_option maxRecDepth 100000
set_option maxHeartbeats 1000000
theorem Inv.grown {C:Ctx} {S:Nat→Prop} {w:World} {β:A0y} {bx:A0b} (h:Inv C S w β bx)(k:Nat)(os:Array Obj):Inv C S (Sort.grow (w.drewN k) os) β bx∧SExt S w S (Sort.grow (w.drewN k) os) :=
 h.grow (fun _ h=>h) (fun _ h=>.inl h) (fun b hb=>by have:=h.Slt b hb;simp [Sort.grow];omega) (fun b hb=>by simp only [Sort.grow];exact Array.getElem?_append_left hb) rfl rfl rfl (by simp [Sort.grow])
theorem G2s {C:Ctx} {S:Nat→Prop} {w:World} {β:A0y} {bx:A0b} (h:Inv C S w β bx):Lib.TabIs prog w "internal/strconv.uint64pow10" .u64 Lib.pow10Tab:=by
 obtain⟨_,ty,fr,h1⟩:=h.tab 0 F3v (.inl ⟨rfl,rfl⟩);unfold Lib.TabIs World.var?
 rw [show prog.globalNamed "internal/strconv.uint64pow10" = some 0 by kernel_rfl]
 simp only [Option.bind_some,h1,Option.some.injEq];rfl
theorem C7q (n:Int)(h0:-9223372036854775808≤n)(h1:n≤9223372036854775807):A0a prog 99 [A0g n] (A2d (Lib.itoa n)):=by
 refine⟨(A1q.of func99 rfl (by decide)),fun C β vs hi hv=>?_⟩;obtain⟨v,hv1,hv2⟩:=hv.get (j:=0) (c:=A0g n) rfl;have hvs:vs=[.int .i64 n]:=by
  have hl:=hv.1
  match vs,hl with
  | [u],_=>simp only [List.getElem?_cons_zero,Option.some.injEq] at hv1;subst hv1;rw [hv2.inv_int]
 subst hvs;refine (Any.strconv_Itoa itoaL n h0 h1 C.w0 (G2s hi)).mono ?_;rintro e w' ⟨rfl,k,os,rfl⟩;obtain⟨q1,_⟩:=hi.grown k os;exact⟨_,C.S0,β,rfl,q1,.d _ _ (.str _ (by have:=Lib.itoa_length_le n h0 h1;unfold lim;omega))⟩
def A1x (i:Nat):Str:=36::Lib.itoa i
theorem A6p (i:Nat):Lib.itoa (i:Int)=Lib.decDigits i:=by unfold Lib.itoa;rw [if_neg (by omega)];rfl
theorem C4w (i:Nat)(h:i≤sm):(A1x i).length≤30:=by have:=Lib.itoa_length_le i (by omega) (by unfold sm at h;omega);simp only [A1x,List.length_cons];omega
theorem D0g (i:Nat)(h:i≤sm):A0a prog 164 [A0g i] (A2d (A1x i)):=by
 have hneg:¬ (i:Int) < 0:=by omega
 have hit:=C7q i (by omega) (by unfold sm at h;omega);have hlen:=Lib.itoa_length_le i (by omega) (by unfold sm at h;omega);unfold A1x;generalize Lib.itoa (i:Int)=s at *;refine cB func164 ?_;refine sR [0,2,4] ?_;refine kR1 hneg [0,2,4] fun K1 u1=>?_;refine kI u1 ?_;clear u1 K1
 (refine sV [0,2,4] fun K z=>?_;refine cc hit ?_;refine⟨by unfold lim;omega,?_⟩;(try refine ev ?_);apply z;clear z K)
 exact aR
theorem B1j {n:Nat} (h:n < 10):Lib.decDigits n=[UInt8.ofNat (48+n)]:=by rw [Lib.decDigits,dif_pos h]
theorem C3v {n:Nat} (h:¬ n < 10):Lib.decDigits n=Lib.decDigits (n / 10)++[UInt8.ofNat (48+n % 10)]:=by rw [Lib.decDigits,dif_neg h]
theorem C6b {n:Nat} (h:n < 10):[[D.int .u8 (IntKind.u8.wrap (48+(n:Int)))]]=[UInt8.ofNat (48+n)].map fun c=>[D.int .u8 c.toNat]:=by
 have:IntKind.u8.wrap (48+(n:Int))=((UInt8.ofNat (48+n)).toNat:Int):=by
  have:n=0∨n=1∨n=2∨n=3∨n=4∨n=5∨n=6∨n=7∨n=8∨n=9:=by omega
  rcases this with rfl | rfl | rfl | rfl | rfl | rfl | rfl | rfl | rfl | rfl <;> decide
 simp only [List.map_cons,List.map_nil,this]
theorem B3e (n:Nat)(hn:n≤sm):A0a prog 78 [A0g n] (A2d (Lib.decDigits n)):=by
 induction n using Nat.strongRecOn with
 | _ n ih =>
 refine cB func78 ?_;refine sR [0,2,4] ?_;refine sK fun K1 u1=>?_;by_cases h10:n < 10
 ·have h10':(n:Int) < 10:=by omega
  refine sR1 h10' [0,2,4] ?_;refine tI ?_
  (refine sV [0,2,4] fun K z=>?_;refine cl ?_;refine⟨_,D3n (e:=5) [UInt8.ofNat (48+n)] (by kernel_rfl) (by kernel_rfl) (by kernel_rfl) rfl (C6b h10) (by simp),?_⟩;(try refine ev ?_);apply z;clear z K)
  rw [B1j h10];exact aR
 ·have h10':¬ (n:Int) < 10:=by omega
  refine sR1 h10' [0,2,4] ?_;refine kI u1 ?_;clear u1 K1;have hrec:=ih (n / 10) (by omega) (by omega);have e1:((n:Int)).tdiv 10=((n / 10:Nat):Int):=rfl;have e2:((n:Int)).tmod 10=((n % 10:Nat):Int):=rfl;rw [C3v h10];have hl:=Lib.itoa_length_le (n / 10:Nat) (by omega) (by unfold sm at hn;omega);rw [A6p] at hl
  (refine sG [0,2,4] [] 9 [] fun K z=>?_;simp -implicitDefEqProofs only [EV,Nat.reduceAdd,Nat.reduceEqDiff,Nat.reduceLeDiff,Nat.reduceMul,Int.reduceEq,reduceCtorEq,TF3,TF5,TF9,G3a];simp only [e1,e2];(try refine ev ?_);refine ca ?_;refine cc hrec ?_;refine cl ?_;refine⟨_,D3n (e:=5) [UInt8.ofNat (48+n % 10)] (by kernel_rfl) (by kernel_rfl) (by kernel_rfl) rfl (C6b (Nat.mod_lt _ (by decide))) (by simp),?_⟩;(try refine ev ?_);refine⟨by unfold lim;omega,?_⟩;(try refine ev ?_);apply z;clear z K)
  exact aR
theorem D4m (i:Nat)(h:i≤sm):A0a prog 158 [A0g i] (A2d (A1x i)):=by
 have hneg:¬ (i:Int) < 0:=by omega
 have hit:=B3e i h;have hlen:=Lib.itoa_length_le i (by omega) (by unfold sm at h;omega);unfold A1x;rw [A6p] at *;generalize Lib.decDigits i=s at *;refine cB func158 ?_;refine sR [0,2,4] ?_;refine kR1 hneg [0,2,4] fun K1 u1=>?_;refine kI u1 ?_;clear u1 K1
 (refine sV [0,2,4] fun K z=>?_;refine cc hit ?_;refine⟨by unfold lim;omega,?_⟩;(try refine ev ?_);apply z;clear z K)
 exact aR
end Go.Abs
