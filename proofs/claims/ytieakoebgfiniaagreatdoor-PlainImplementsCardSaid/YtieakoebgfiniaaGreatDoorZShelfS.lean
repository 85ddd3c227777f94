/-
  DERIVED: THE SHELF's CONTRACTS AT THIS DUMP, IN PLAIN WORDS (tools/lay-plain.mjs out of 'YtieakoebgfiniaaGreatDoorShelfU.lean', which tools/lay-shelf.mjs wrote): THE SAME DECLARATIONS UNDER THE SAME NAMES: 'import', 'namespace', 'open', 'def', 'theorem' AND NOTHING ELSE: no command of the shelf's: FOR A HAND-IN. Each laying: the table of numbers ('.._ren') and one theorem, a field a fact of the dump's own or the kernel's comparison; each contract: ONE APPLICATION.
-/
import Derived.Shelf.SlSortCmp.NoneTotal
import Derived.Ground.SlsfProg
import Derived.Test.YtieakoebgfiniaaGreatDoorProg
namespace Go.Proofs
open Go.Shelf Tryz
theorem M4{α:Type}{x:Option α}{a b:α}(h:x=some a)(e:a=b:=by kernel_rfl):x=some b:=h.trans (congrArg some e)
def Tryz.F2f:Go.Shelf.Ren:=⟨fun|6=>101|15=>178|14=>177|28=>265|29=>266|20=>257|21=>258|22=>259|23=>260|24=>261|25=>262|26=>263|27=>264|46=>303|47=>304|48=>305|49=>306|50=>307|57=>325|n=>n,fun|22=>52|24=>55|25=>165|3=>3|39=>234|0=>0|53=>305|55=>307|4=>4|46=>299|45=>298|50=>88|5=>5|9=>9|66=>332|70=>336|76=>352|77=>353|n=>n,fun|n=>n⟩
theorem Tryz.Qp:Go.Proofs.SlLaysF0.n6 Tryz.prog Tryz.F2f:={
 mixed:=by kernel_rfl
 f6:=⟨Tryz.f101.name,by decide,M4 func101⟩
 f14:=⟨Tryz.f177.name,by decide,M4 func177⟩
 f15:=M4 func178
 f20:=⟨Tryz.f257.name,by decide,M4 func257⟩
 f21:=⟨Tryz.f258.name,by decide,M4 func258⟩
 f22:=⟨Tryz.f259.name,by decide,M4 func259⟩
 f23:=⟨Tryz.f260.name,by decide,M4 func260⟩
 f24:=⟨Tryz.f261.name,by decide,M4 func261⟩
 f25:=⟨Tryz.f262.name,by decide,M4 func262⟩
 f26:=⟨Tryz.f263.name,by decide,M4 func263⟩
 f27:=⟨Tryz.f264.name,by decide,M4 func264⟩
 f28:=M4 func265
 f29:=M4 func266
 f46:=⟨Tryz.f303.name,by decide,M4 func303⟩
 f47:=M4 func304
 f48:=M4 func305
 f49:=⟨Tryz.f306.name,by decide,M4 func306⟩
 f50:=⟨Tryz.f307.name,by decide,M4 func307⟩
 f57:=⟨Tryz.f325.name,by decide,M4 func325⟩
 t0:=underlying0
 a0:=isAgg0
 z0:=sizeOf0
 v0:=zeroValue0
 t3:=underlying3
 a3:=isAgg3
 z3:=sizeOf3
 v3:=zeroValue3
 t4:=underlying4
 a4:=isAgg4
 z4:=sizeOf4
 v4:=zeroValue4
 t5:=underlying5
 a5:=isAgg5
 z5:=sizeOf5
 v5:=zeroValue5
 t9:=underlying9
 a9:=isAgg9
 z9:=sizeOf9
 v9:=zeroValue9
 t22:=underlying52
 a22:=isAgg52
 z22:=sizeOf52
 v22:=zeroValue52
 t25:=underlying165
 a25:=isAgg165
 z25:=sizeOf165
 v25:=zeroValue165
 t39:=underlying234
 a39:=isAgg234
 z39:=sizeOf234
 v39:=zeroValue234
 t45:=underlying298
 a45:=isAgg298
 z45:=sizeOf298
 v45:=zeroValue298
 t46:=underlying299
 a46:=isAgg299
 z46:=sizeOf299
 v46:=zeroValue299
 t50:=underlying88
 a50:=isAgg88
 z50:=sizeOf88
 v50:=zeroValue88
 t53:=underlying305
 a53:=isAgg305
 z53:=sizeOf305
 v53:=zeroValue305
 t55:=underlying307
 a55:=isAgg307
 z55:=sizeOf307
 v55:=zeroValue307
 t66:=underlying332
 a66:=isAgg332
 z66:=sizeOf332
 v66:=zeroValue332
 t70:=underlying336
 a70:=isAgg336
 z70:=sizeOf336
 v70:=zeroValue336
 t76:=underlying352
 a76:=isAgg352
 z76:=sizeOf352
 v76:=zeroValue352
 t77:=underlying353
 a77:=isAgg353
 z77:=sizeOf353
 v77:=zeroValue353 }
end Go.Proofs
