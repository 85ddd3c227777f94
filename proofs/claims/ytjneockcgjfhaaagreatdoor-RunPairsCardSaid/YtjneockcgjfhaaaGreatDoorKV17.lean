/- a program and the program of its instance set make the same steps: castingslaw26.RunPairs -/
import Derived.Test.YtjneockcgjfhaaaGreatDoorKP47
set_option linter.all false
set_option maxHeartbeats 4000000
set_option maxRecDepth 100000
namespace Go.Abs
open Go Go.Proofs Tryz
def G5a{n:Int}(E:(Lit.int .u8 n).wf=true):∃a:Nat,n.tmod 25=a/\a<25/\IntKind.i64.wrap n=n:=by
 have I:0<=n/\n<=255:=by simp[Lit.wf]at E;exact E
 have J:=Int.tmod_nonneg 25 I.1;have L:=Int.tmod_lt_of_pos n (b:=25) (by omega);exact⟨(n.tmod 25).toNat,by omega,by omega,wrap_i64 (by unfold B7;omega)⟩
abbrev Je:List Nat:=[0,1,2,4,5,6,7,8,9,10,11,18,26,39]
def G6s(p:Prog)(n:Int)(a1:(Lit.int .u8 n).wf=true):Ab prog 3 [Cq p,.d (.int .u8 n)] (B1 true):=by
 have O:=H0c;have V:=G3g p;cases I:B6h p with
 |false =>
  rw[I,A3 (by simp)]at V;refine cB func3 ?_;refine sR Je<|sK λE u1=>?_
  refine sV Je λK z=>?_;refine cc O ?_;refine cc V ?_;apply z;clear z K;refine tI ?_;refine sC O Je ?_;exact aR
 |true =>
 rw[I,A6 rfl]at V;unfold B6h at I;simp only[Bi,E4,Jj]at I;have U:=Prog.A5g p I.1;have W:=H0m p U (Prog.Y3 p I.1) (E9i I.2.1) (F3j I.2.1);unfold fiV at W;cases hb:(Kt p).2 with
 |false =>
  rw[hb]at W;generalize(Kt p).1=s at*;refine cB func3 ?_;refine sR Je<|sK λE u1=>?_
  refine sV Je λK z=>?_;refine cc O ?_;refine cc V ?_;apply z;clear z K;refine kI u1 ?_;clear u1 E;refine sC W Je ?_;refine kR Je λE u1=>?_;refine tI ?_;refine sR Je ?_;exact aR
 |true =>
  have J:=Rf.of I.1 I.2.1 I.2.2.1 hb;rw[hb]at W;generalize(Kt p).1=s at*;obtain⟨a,ha,a2,wn⟩:=G5a a1;have Z:=G5v p U.sm a (by omega) p.main;cases L:(Hg p a p.main).2.2.2 with
  |false =>
   rw[L]at Z;generalize A0u (Hg p a p.main).2.2.1=z at*;generalize(Hg p a p.main).1=x at*;generalize(Hg p a p.main).2.1=y at*;refine cB func3 ?_;refine sR Je<|sK λE u1=>?_
   refine sV Je λK z=>?_;refine cc O ?_;refine cc V ?_;apply z;clear z K;refine kI u1 ?_;clear u1 E;refine sC W Je ?_;refine kR Je λE u1=>?_;refine kI u1 ?_;clear u1 E;refine Er wn ha Je ?_;refine sC Z Je ?_;refine kR Je λE u1=>?_;refine tI ?_;refine sR Je ?_;exact aR
  |true =>
   obtain⟨m1,m2⟩:=D8z J J.Gc.body (G8n J J.Gc.main) L;have c3:=F3e p I.1 I.2.1 J.fd;have c4:=C3q p (Fq p s) U.sm (G9f J).sm mtT Dg a (by omega) m1;rw[show(Fq p s).main=Bf p.main from rfl,m2]at c4;rw[L]at Z;generalize A0u (Hg p a p.main).2.2.1=z at*;generalize(Hg p a p.main).1=x at*;generalize(Hg p a p.main).2.1=y at*;generalize Fq p s=q at*;have a0:decide (y=y)=true:=by simp
   refine cB func3 ?_;refine sR Je<|sK λE u1=>?_
   refine sV Je λK z=>?_;refine cc O ?_;refine cc V ?_;apply z;clear z K;refine kI u1 ?_;clear u1 E;refine sC W Je ?_;refine kR Je λE u1=>?_;refine kI u1 ?_;clear u1 E;refine Er wn ha Je ?_;refine sC Z Je ?_;refine kR Je λE u1=>?_;refine kI u1 ?_;clear u1 E;refine sC c3 Je ?_;refine sC c4 Je ?_;refine Ap a0 Je ?_;exact aR
end Go.Abs
