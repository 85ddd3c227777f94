/- local names -/
import Derived.Lib.ItoaLen
import Derived.Test.YtieakoebgfiniaaGreatDoorZShelf
import Derived.Test.YtieakoebgfiniaaGreatDoorZAb8
import Derived.Test.YtieakoebgfiniaaGreatDoorZSB
import Derived.Shelf.Lay
import Derived.Shelf.Strings.OnBuilder
import Derived.Shelf.Strings.Count
import Derived.Shelf.Small.Wraps
import Derived.Shelf.Strconv.ErrVarAll
set_option linter.all false
set_option maxHeartbeats 1000000
set_option maxRecDepth 100000
namespace Go.Abs
open Go Go.Proofs Tryz
def Inv.grown{C:Ctx}{S:Nat->Prop}{w:World}{β:Names}{bx:Ab}(h:Inv C S w β bx)(k:Nat)(os:Array Obj):Inv C S (Sort.grow (w.drewN k) os) β bx/\C4 S w S (Sort.grow (w.drewN k) os) :=
 h.grow (λ_ h=>h) (λ_ h=>.inl h) (λb E=>by have:=h.Bw b E;simp[Sort.grow];omega) (λb E=>by simp only[Sort.grow];exact Aq2 E) rfl rfl rfl (by simp[Sort.grow])
def G6d{C:Ctx}{S:Nat->Prop}{w:World}{β:Names}{bx:Ab}(h:Inv C S w β bx):Lib.TabIs prog w "internal/strconv.uint64pow10" .u64 Lib.pow10Tab:=by
 obtain⟨_,ty,I,E⟩:=h.E2 1 C0j (.inl ⟨rfl,rfl⟩);unfold Lib.TabIs World.var?
 rw[show prog.globalNamed "internal/strconv.uint64pow10" =some 1 by kernel_rfl]
 simp only[Aq6,E,B5];rfl
def F1z(n:Int)(V:-9223372036854775808<=n)(L:n<=9223372036854775807):Aa prog 302 [A5 n] (Bm (Lib.itoa n)):=by
 refine⟨(Enters.of func302 rfl (by decide)),λC β vs O U=>?_⟩;obtain⟨v,E,I⟩:=U.get (j:=0) (c:=A5 n) rfl;have J:vs=[.int .i64 n]:=by
  have Z:=U.1
  match vs,Z with
  |[u],_=>simp only[Xg,B5]at E;subst E;rw[I.J2]
 subst J;refine(Any.strconv_Itoa G4b n V L C.w0 (G6d O)).mono ?_;rintro e w' ⟨rfl,k,os,rfl⟩;obtain⟨W,_⟩:=O.grown k os;exact⟨_,C.S0,β,rfl,W,.d _ _ (.str _ (by have:=Lib.itoa_length_le n V L;unfold lim;omega))⟩
def E0(i:Nat):A2:=36::Lib.itoa i
def Vt(i:Nat):Lib.itoa (i:Int)=Lib.decDigits i:=by unfold Lib.itoa;rw[A6 (by omega)];rfl
def E2m(i:Nat)(h:i<=sm):(E0 i).length<=30:=by have:=Lib.itoa_length_le i (by omega) (by unfold sm at h;omega);simp only[E0,Bg];omega
def D1u(i:Nat)(h:i<=sm):Aa prog 256 [A5 i] (Bm (E0 i)):=by
 have E:¬(i:Int)<0:=by omega
 have hit:=F1z i (by omega) (by unfold sm at h;omega);have I:=Lib.itoa_length_le i (by omega) (by unfold sm at h;omega);unfold E0;generalize Lib.itoa (i:Int)=s at*;refine cB func256 ?_;refine sR [0,2,4] ?_;refine Ai E [0,2,4] λJ u1=>?_;refine kI u1 ?_;clear u1 J
 (refine sV [0,2,4] λK z=>?_;refine cc hit ?_;refine⟨by unfold lim;omega,?_⟩;(try refine ev ?_);apply z;clear z K)
 exact aR
def B4o{n:Nat}(h:n<10):Lib.decDigits n=[UInt8.ofNat (48+n)]:=by rw[Lib.decDigits,dif_pos h]
def B3r{n:Nat}(h:¬n<10):Lib.decDigits n=Lib.decDigits (n / 10)++[UInt8.ofNat (48+n % 10)]:=by rw[Lib.decDigits,dif_neg h]
def E0a{n:Nat}(h:n<10):[[D.int .u8 (IntKind.u8.wrap (48+(n:Int)))]]=[UInt8.ofNat (48+n)].map λc=>[D.int .u8 c.toNat]:=by
 have:IntKind.u8.wrap (48+(n:Int))=((UInt8.ofNat (48+n)).toNat:Int):=by
  have:n=0\/n=1\/n=2\/n=3\/n=4\/n=5\/n=6\/n=7\/n=8\/n=9:=by omega
  rcases this with rfl|rfl|rfl|rfl|rfl|rfl|rfl|rfl|rfl|rfl <;> decide
 simp only[Ck,G3,this]
def C1c(n:Nat)(W:n<=sm):Aa prog 36 [A5 n] (Bm (Lib.decDigits n)):=by
 induction n using Nat.strongRecOn with
 |_ n L =>
 refine cB func36 ?_;refine sR [0,2,4]<|sK λZ u1=>?_;by_cases I:n<10
 .have E:(n:Int)<10:=by omega
  refine Ak E [0,2,4] ?_;refine tI ?_
  (refine sV [0,2,4] λK z=>?_;refine cl ?_;refine⟨_,D1x (e:=5) [UInt8.ofNat (48+n)] (by kernel_rfl) (by kernel_rfl) (by kernel_rfl) rfl (E0a I) (by simp),?_⟩;(try refine ev ?_);apply z;clear z K)
  rw[B4o I];exact aR
 .have E:¬(n:Int)<10:=by omega
  refine Ak E [0,2,4] ?_;refine kI u1 ?_;clear u1 Z;have J:=L (n / 10) (by omega) (by omega);have U:((n:Int)).tdiv 10=((n / 10:Nat):Int):=rfl;have O:((n:Int)).tmod 10=((n % 10:Nat):Int):=rfl;rw[B3r I];have V:=Lib.itoa_length_le (n / 10:Nat) (by omega) (by unfold sm at W;omega);rw[Vt]at V
  (refine sG [0,2,4] [] 9 [] λK z=>?_;simp -implicitDefEqProofs only[EV,Nat.reduceAdd,Nat.reduceEqDiff,Nat.reduceLeDiff,Nat.reduceMul,Int.reduceEq,reduceCtorEq,Ih,TF5,Ka,E4w];simp only[U,O];(try refine ev ?_);refine ca ?_;refine cc J ?_;refine cl ?_;refine⟨_,D1x (e:=5) [UInt8.ofNat (48+n % 10)] (by kernel_rfl) (by kernel_rfl) (by kernel_rfl) rfl (E0a (Ar6 _ (by decide))) (by simp),?_⟩;(try refine ev ?_);refine⟨by unfold lim;omega,?_⟩;(try refine ev ?_);apply z;clear z K)
  exact aR
def D0w(i:Nat)(h:i<=sm):Aa prog 90 [A5 i] (Bm (E0 i)):=by
 have E:¬(i:Int)<0:=by omega
 have hit:=C1c i h;have I:=Lib.itoa_length_le i (by omega) (by unfold sm at h;omega);unfold E0;rw[Vt]at*;generalize Lib.decDigits i=s at*;refine cB func90 ?_;refine sR [0,2,4] ?_;refine Ai E [0,2,4] λJ u1=>?_;refine kI u1 ?_;clear u1 J
 (refine sV [0,2,4] λK z=>?_;refine cc hit ?_;refine⟨by unfold lim;omega,?_⟩;(try refine ev ?_);apply z;clear z K)
 exact aR
open Go Go.Proofs Go.RowKit Go.Lib Go.Sort Tryz
def F2g(s:A2):Bool:=match Lib.atoiAll s with
 |.ok _=>false
 |.range=>false
 |_=>true
end Go.Abs
