import Derived.Test.YtoajimpjknbnoaaGreatDoorKP44
import Derived.Test.YtoajimpjknbnoaaGreatDoorKV26
set_option linter.all false
set_option maxHeartbeats 4000000
set_option maxRecDepth 100000
namespace Go.iA
open Go Go.Proofs Tryz
def G5a{p:Prog}{s:Ao}(h:Pa p s):HQ (Bm p s)=Gx:=by unfold HQ;rw[A7 (fq h),sj h (nS h)]
abbrev Tb:=[0,1,2,3,4,5,12,20]
def law24_stencils(p:Prog):Ab prog 3 [Cs p] (Ar true):=by
 have J:=vr;have O:=G4c p;cases I:xQ p with
 |false =>
  rw[I,A5 (by simp)]at O;refine cB func3 ?_;refine sR Tb<|sK λL u1=>?_
  refine sV Tb λK z=>?_;refine cc J ?_;refine cc O ?_;apply z;refine tI ?_;refine sC J Tb ?_;exact aR
 |true =>
 rw[I,A7 rfl]at O;unfold xQ at I;simp only[Bh,Di,Lu]at I;have V:=oA p I.1;have U:=H5y p V (Prog.Ru p I.1) (G4q I.2.1) (G7d I.2.1);unfold fiV at U;cases Z:(Li p).2 with
 |false =>
  rw[Z]at U;generalize(Li p).1=s at*;refine cB func3 ?_;refine sR Tb<|sK λL u1=>?_
  refine sV Tb λK z=>?_;refine cc J ?_;refine cc O ?_;apply z;refine kI u1 ?_;refine sC U Tb ?_;refine kR Tb λL u1=>?_;refine tI ?_;refine sR Tb ?_;exact aR
 |true =>
  have E:=Pa.of I.1 I.2.1 I.2.2.1 Z;rw[Z]at U;generalize(Li p).1=s at*;have e2:=G5a E;have h1:=G0m p I.1 I.2.1 E.fd;have h2:=G9c (o9 E) (fq E) (by rw[sj E (nS E)];rfl) (VZ E);have W:=H7e (Bm p s) (o9 E) (VZ E);rw[e2]at W;simp only[Cw,Hu]at h2;simp only[Kk,Gx]at W;generalize Bm p s=q at*;refine cB func3 ?_;refine sR Tb<|sK λL u1=>?_
  refine sV Tb λK z=>?_;refine cc J ?_;refine cc O ?_;apply z;refine kI u1 ?_;refine sC U Tb ?_;refine kR Tb λL u1=>?_;refine kI u1 ?_;refine sC h1 Tb ?_;refine sV Tb λK z=>?_;refine cc h2 ?_;refine cc W ?_;apply z;exact aR
end Go.iA
