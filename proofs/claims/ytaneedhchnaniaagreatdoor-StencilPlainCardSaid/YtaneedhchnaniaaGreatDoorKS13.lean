/- local names -/
import Derived.Lib.ItoaLen
import Derived.Test.YtaneedhchnaniaaGreatDoorKShelf
import Derived.Test.YtaneedhchnaniaaGreatDoorKAb7
import Derived.Test.YtaneedhchnaniaaGreatDoorKSB
namespace Go.Abs
set_option linter.all false
open Go Go.Proofs Tryz
set_option maxRecDepth 100000
set_option maxHeartbeats 1000000
theorem Inv.grown {C:Ctx} {S:Nat→Prop} {w:World} {β:Names} {bx:Ab} (h:Inv C S w β bx)(k:Nat)(os:Array Obj):Inv C S (Sort.grow (w.drewN k) os) β bx∧Bo S w S (Sort.grow (w.drewN k) os) :=
 h.grow (fun _ h=>h) (fun _ h=>.inl h) (fun b E=>by have:=h.Bi b E;simp [Sort.grow];omega) (fun b E=>by simp only [Sort.grow];exact Am4 E) rfl rfl rfl (by simp [Sort.grow])
theorem E4p {C:Ctx} {S:Nat→Prop} {w:World} {β:Names} {bx:Ab} (h:Inv C S w β bx):Lib.TabIs prog w "internal/strconv.uint64pow10" .u64 Lib.pow10Tab:=by
 obtain⟨_,ty,I,E⟩:=h.D9 0 B6k (.inl ⟨rfl,rfl⟩);unfold Lib.TabIs World.var?
 rw [show prog.globalNamed "internal/strconv.uint64pow10" = some 0 by kernel_rfl]
 simp only [Ao7,E,Av];rfl
theorem B7e (n:Int)(R:-9223372036854775808≤n)(O:n≤9223372036854775807):Ac prog 138 [A9 n] (C8 (Lib.itoa n)):=by
 refine⟨(Enters.of func138 rfl (by decide)),fun C β vs L U=>?_⟩;obtain⟨v,E,J⟩:=U.get (j:=0) (c:=A9 n) rfl;have I:vs=[.int .i64 n]:=by
  have V:=U.1
  match vs,V with
  |[u],_=>simp only [Iz,Av] at E;subst E;rw [J.J4]
 subst I;refine (Any.strconv_Itoa F1q n R O C.w0 (E4p L)).mono ?_;rintro e w' ⟨rfl,k,os,rfl⟩;obtain⟨W,_⟩:=L.grown k os;exact⟨_,C.S0,β,rfl,W,.d _ _ (.str _ (by have:=Lib.itoa_length_le n R O;unfold lim;omega))⟩
def Ec (i:Nat):A3:=36::Lib.itoa i
theorem A3j (i:Nat):Lib.itoa (i:Int)=Lib.decDigits i:=by unfold Lib.itoa;rw [A6 (by omega)];rfl
theorem D2j (i:Nat)(h:i≤sm):(Ec i).length≤30:=by have:=Lib.itoa_length_le i (by omega) (by unfold sm at h;omega);simp only [Ec,Bg];omega
theorem C5s (i:Nat)(h:i≤sm):Ac prog 210 [A9 i] (C8 (Ec i)):=by
 have E:¬(i:Int) < 0:=by omega
 have hit:=B7e i (by omega) (by unfold sm at h;omega);have I:=Lib.itoa_length_le i (by omega) (by unfold sm at h;omega);unfold Ec;generalize Lib.itoa (i:Int)=s at *;refine cB func210 ?_;refine sR [0,2,4] ?_;refine Ai E [0,2,4] fun J u1=>?_;refine kI u1 ?_;clear u1 J
 (refine sV [0,2,4] fun K z=>?_;refine cc hit ?_;refine⟨by unfold lim;omega,?_⟩;(try refine ev ?_);apply z;clear z K)
 exact aR
theorem B2m {n:Nat} (h:n < 10):Lib.decDigits n=[UInt8.ofNat (48+n)]:=by rw [Lib.decDigits,dif_pos h]
theorem B2w {n:Nat} (h:¬n < 10):Lib.decDigits n=Lib.decDigits (n / 10)++[UInt8.ofNat (48+n % 10)]:=by rw [Lib.decDigits,dif_neg h]
theorem D6o {n:Nat} (h:n < 10):[[D.int .u8 (IntKind.u8.wrap (48+(n:Int)))]]=[UInt8.ofNat (48+n)].map fun c=>[D.int .u8 c.toNat]:=by
 have:IntKind.u8.wrap (48+(n:Int))=((UInt8.ofNat (48+n)).toNat:Int):=by
  have:n=0∨n=1∨n=2∨n=3∨n=4∨n=5∨n=6∨n=7∨n=8∨n=9:=by omega
  rcases this with rfl| rfl| rfl| rfl| rfl| rfl| rfl| rfl| rfl| rfl <;> decide
 simp only [Cz,Hr,this]
theorem F7b (n:Nat)(U:n≤sm):Ac prog 361 [A9 n] (C8 (Lib.decDigits n)):=by
 induction n using Nat.strongRecOn with
 |_ n V =>
 refine cB func361 ?_;refine sR [0,2,4] ?_;refine sK fun W u1=>?_;by_cases I:n < 10
 ·have E:(n:Int) < 10:=by omega
  refine Ah E [0,2,4] ?_;refine tI ?_
  (refine sV [0,2,4] fun K z=>?_;refine cl ?_;refine⟨_,D0f (e:=5) [UInt8.ofNat (48+n)] (by kernel_rfl) (by kernel_rfl) (by kernel_rfl) rfl (D6o I) (by simp),?_⟩;(try refine ev ?_);apply z;clear z K)
  rw [B2m I];exact aR
 ·have E:¬(n:Int) < 10:=by omega
  refine Ah E [0,2,4] ?_;refine kI u1 ?_;clear u1 W;have J:=V (n / 10) (by omega) (by omega);have O:((n:Int)).tdiv 10=((n / 10:Nat):Int):=rfl;have R:((n:Int)).tmod 10=((n % 10:Nat):Int):=rfl;rw [B2w I];have L:=Lib.itoa_length_le (n / 10:Nat) (by omega) (by unfold sm at U;omega);rw [A3j] at L
  (refine sG [0,2,4] [] 9 [] fun K z=>?_;simp -implicitDefEqProofs only [EV,Nat.reduceAdd,Nat.reduceEqDiff,Nat.reduceLeDiff,Nat.reduceMul,Int.reduceEq,reduceCtorEq,Jw,TF5,M3,D9o];simp only [O,R];(try refine ev ?_);refine ca ?_;refine cc J ?_;refine cl ?_;refine⟨_,D0f (e:=5) [UInt8.ofNat (48+n % 10)] (by kernel_rfl) (by kernel_rfl) (by kernel_rfl) rfl (D6o (Xp _ (by decide))) (by simp),?_⟩;(try refine ev ?_);refine⟨by unfold lim;omega,?_⟩;(try refine ev ?_);apply z;clear z K)
  exact aR
theorem F7o (i:Nat)(h:i≤sm):Ac prog 327 [A9 i] (C8 (Ec i)):=by
 have E:¬(i:Int) < 0:=by omega
 have hit:=F7b i h;have I:=Lib.itoa_length_le i (by omega) (by unfold sm at h;omega);unfold Ec;rw [A3j] at *;generalize Lib.decDigits i=s at *;refine cB func327 ?_;refine sR [0,2,4] ?_;refine Ai E [0,2,4] fun J u1=>?_;refine kI u1 ?_;clear u1 J
 (refine sV [0,2,4] fun K z=>?_;refine cc hit ?_;refine⟨by unfold lim;omega,?_⟩;(try refine ev ?_);apply z;clear z K)
 exact aR
end Go.Abs
