/- types of an instance set implement each other as their names do: castingslaw24.PlainImplements -/
import Derived.Test.YtieakoebgfiniaaGreatDoorZP45
import Derived.Test.YtieakoebgfiniaaGreatDoorZV25
set_option linter.all false
set_option maxHeartbeats 4000000
set_option maxRecDepth 100000
namespace Go.Abs
open Go Go.Proofs Tryz
def D7r{i:Int}(E:(Lit.int .u8 i).wf=true):0<=i/\i<=255:=by simp[Lit.wf]at E;exact E
def D7x{l:List Ty}(h:l≠[]){i:Int}(E:0<=i):∃(a:Nat)(x:Ty),i.tmod (l.length:Int)=(a:Int)/\l[a]?=some x/\x∈l:=by have J:0<l.length:=List.length_pos_iff.2 h;have L:=Int.tmod_nonneg (l.length:Int) E;have I:=Int.tmod_lt_of_pos i (show(0:Int)<l.length by omega);exact⟨(i.tmod (l.length:Int)).toNat,l[(i.tmod (l.length:Int)).toNat],by omega,Bi (by omega),Fq _⟩
abbrev L6:List Nat:=[0,1,2,3,6,7,8,9,10,11,18,32]
def F3f(p:Prog)(i:Int)(a6:(Lit.int .u8 i).wf=true)(k:Int)(a1:(Lit.int .u8 k).wf=true):Aa prog 4 [Ct p,.d (.int .u8 i),.d (.int .u8 k)] (Aw true):=by
 have a5:=D7r a6;have a0:=D7r a1;have L:=G1k;have hg:=F1h p;cases I:B6s p with
 |false =>
  rw[I,A6 (by simp)]at hg;refine cB func4 ?_;refine sR L6<|sK λU u1=>?_
  (refine sV L6 λK z=>?_;refine cc L ?_;refine cc hg ?_;apply z;clear z K)
  refine tI ?_;refine sC L L6 ?_;exact aR
 |true =>
 rw[I,A8 rfl]at hg;unfold B6s at I;simp only[Bb,Dp,Js]at I;have W:=Prog.X8 p I.1;have Z:=G4q p W (Prog.Tp p I.1) (F1r I.2.1) (F2s I.2.1);unfold fiV at Z;cases hb:(Km p).2 with
 |false =>
  rw[hb]at Z;generalize(Km p).1=s at*;refine cB func4 ?_;refine sR L6<|sK λU u1=>?_
  (refine sV L6 λK z=>?_;refine cc L ?_;refine cc hg ?_;apply z;clear z K)
  refine kI u1 ?_;clear u1 U;refine sC Z L6 ?_;refine kR L6 λU u1=>?_;refine tI ?_;refine sR L6 ?_;exact aR
 |true =>
  have E:=T6.of I.1 I.2.1 I.2.2.1 hb;rw[hb]at Z;generalize(Km p).1=s at*;by_cases he:s.types=[]
  .have hl:((s.types.length:Nat):Int)=0:=by rw[he];rfl
   refine cB func4 ?_;refine sR L6<|sK λU u1=>?_
   (refine sV L6 λK z=>?_;refine cc L ?_;refine cc hg ?_;apply z;clear z K)
   refine kI u1 ?_;clear u1 U;refine sC Z L6 ?_;refine Ai hl L6 λU u1=>?_;refine tI ?_;refine sR L6 ?_;exact aR
  have a7:0<s.types.length:=List.length_pos_iff.2 he;have a3:¬((s.types.length:Nat):Int)=0:=by omega
  obtain⟨a,x,ha,hx,O⟩:=D7x he a5.1;obtain⟨b,y,a2,hy,J⟩:=D7x he a0.1;have wi:IntKind.i64.wrap i=i:=wrap_i64 (by unfold B4;omega);have wk:IntKind.i64.wrap k=k:=wrap_i64 (by unfold B4;omega);have h1:=G9f p I.1 I.2.1 E.fd;have V:=λt (ht:t∈s.types)=>E.fd.types t ht;have h2:=Yi x (V x O).mg (Cp (V x O).len (by decide));have h3:=Yi y (V y J).mg (Cp (V y J).len (by decide));have h4:=C1n (Hi p s) (G9x E).sm x.mg y.mg (B0b E O) (B0b E J);rw[H2h E O J]at h4;have h5:=A5w p W.sm [] (by simp) (by simp) x y (E.fd.sm.types.2 x O) (E.fd.sm.types.2 y J);simp only[show Ag ([]:List Ah)=[] from rfl]at h5;generalize Cv p [] x y=z at*;have a4:(z ==z)=true:=by simp
  generalize Hi p s=q at*;generalize x.mg=xm at*;generalize y.mg=ym at*;refine cB func4 ?_;refine sR L6<|sK λU u1=>?_
  (refine sV L6 λK z=>?_;refine cc L ?_;refine cc hg ?_;apply z;clear z K)
  refine kI u1 ?_;clear u1 U;refine sC Z L6 ?_;refine Ai a3 L6 λU u1=>?_;refine kI u1 ?_;clear u1 U;refine sC h1 L6 ?_
  (refine sG L6 [] 11 [⟨[],[],[10],[10]⟩,⟨[],[],[10],[10]⟩,⟨[],[],[10],[10]⟩,⟨[],[],[10],[10]⟩,⟨[],[],[10],[10]⟩,⟨[],[],[10],[10]⟩,⟨[],[],[10],[10]⟩,⟨[],[],[10],[10]⟩,⟨[],[],[10],[10]⟩,⟨[],[],[10],[10]⟩,⟨[10],[10],[],[]⟩] λK z=>?_;refine Fm wi ha ?_;refine⟨by omega,?_⟩;refine ci (Et hx) ?_;apply z;clear z K)
  (refine sG L6 [] 11 [⟨[],[],[11],[11]⟩,⟨[],[],[11],[11]⟩,⟨[],[],[11],[11]⟩,⟨[],[],[11],[11]⟩,⟨[],[],[11],[11]⟩,⟨[],[],[11],[11]⟩,⟨[],[],[11],[11]⟩,⟨[],[],[11],[11]⟩,⟨[],[],[11],[11]⟩,⟨[],[],[11],[11]⟩,⟨[11],[11],[],[]⟩] λK z=>?_;refine Fm wk a2 ?_;refine⟨by omega,?_⟩;refine ci (Et hy) ?_;apply z;clear z K)
  (refine sG L6 [] 9 [] λK z=>?_;refine ev ?_;refine cc h2 ?_;refine cc h3 ?_;refine cc h4 ?_;refine⟨_,.inl ⟨_,rfl,h5,rfl⟩,?_⟩;(try refine Ap a4 ?_);apply z;clear z K)
  exact aR
end Go.Abs
