/-
  DERIVED: THE SHELF's CONTRACTS AT THIS DUMP, IN PLAIN WORDS (tools/lay-plain.mjs out of 'YtjneockcgjfhaaaGreatDoorShelfU.lean', which tools/lay-shelf.mjs wrote): THE SAME DECLARATIONS UNDER THE SAME NAMES: 'import', 'namespace', 'open', 'def', 'theorem' AND NOTHING ELSE: no command of the shelf's: FOR A HAND-IN. Each laying: the table of numbers ('.._ren') and one theorem, a field a fact of the dump's own or the kernel's comparison; each contract: ONE APPLICATION.
-/
import Derived.Shelf.SlSortCmp.NoneTotal
import Derived.Ground.SlsfProg
import Derived.Test.YtjneockcgjfhaaaGreatDoorProg
namespace Go.Proofs
open Go.Shelf Tryz
theorem Ms{α:Type}{x:Option α}{a b:α}(h:x=some a)(e:a=b:=by kernel_rfl):x=some b:=h.trans (congrArg some e)
def Tryz.G4e:Go.Shelf.Ren:=⟨fun|6=>233|15=>258|14=>257|28=>280|29=>214|20=>272|21=>273|22=>274|23=>275|24=>276|25=>277|26=>278|27=>279|46=>289|47=>290|48=>291|49=>292|50=>293|57=>294|n=>n,fun|22=>48|24=>51|25=>281|3=>3|39=>267|0=>0|53=>264|55=>228|4=>4|46=>315|45=>314|50=>43|5=>5|9=>9|66=>330|70=>334|76=>336|77=>337|n=>n,fun|n=>n⟩
theorem Tryz.E6j:Go.Proofs.SlLaysF0.n6 Tryz.prog Tryz.G4e:={
 mixed:=by kernel_rfl
 f6:=⟨Tryz.f233.name,by decide,Ms func233⟩
 f14:=⟨Tryz.f257.name,by decide,Ms func257⟩
 f15:=Ms func258
 f20:=⟨Tryz.f272.name,by decide,Ms func272⟩
 f21:=⟨Tryz.f273.name,by decide,Ms func273⟩
 f22:=⟨Tryz.f274.name,by decide,Ms func274⟩
 f23:=⟨Tryz.f275.name,by decide,Ms func275⟩
 f24:=⟨Tryz.f276.name,by decide,Ms func276⟩
 f25:=⟨Tryz.f277.name,by decide,Ms func277⟩
 f26:=⟨Tryz.f278.name,by decide,Ms func278⟩
 f27:=⟨Tryz.f279.name,by decide,Ms func279⟩
 f28:=Ms func280
 f29:=Ms func214
 f46:=⟨Tryz.f289.name,by decide,Ms func289⟩
 f47:=Ms func290
 f48:=Ms func291
 f49:=⟨Tryz.f292.name,by decide,Ms func292⟩
 f50:=⟨Tryz.f293.name,by decide,Ms func293⟩
 f57:=⟨Tryz.f294.name,by decide,Ms func294⟩
 t0:=underlying0
 a0:=isAgg0
 z0:=sizeOf0
 v0:=zeroValue0
 t3:=underlying3
 a3:=isAgg3
 z3:=sizeOf3
 v3:=zeroValue3
 t4:=underlying4
 a4:=isAgg4
 z4:=sizeOf4
 v4:=zeroValue4
 t5:=underlying5
 a5:=isAgg5
 z5:=sizeOf5
 v5:=zeroValue5
 t9:=underlying9
 a9:=isAgg9
 z9:=sizeOf9
 v9:=zeroValue9
 t22:=underlying48
 a22:=isAgg48
 z22:=sizeOf48
 v22:=zeroValue48
 t25:=underlying281
 a25:=isAgg281
 z25:=sizeOf281
 v25:=zeroValue281
 t39:=underlying267
 a39:=isAgg267
 z39:=sizeOf267
 v39:=zeroValue267
 t45:=underlying314
 a45:=isAgg314
 z45:=sizeOf314
 v45:=zeroValue314
 t46:=underlying315
 a46:=isAgg315
 z46:=sizeOf315
 v46:=zeroValue315
 t50:=underlying43
 a50:=isAgg43
 z50:=sizeOf43
 v50:=zeroValue43
 t53:=underlying264
 a53:=isAgg264
 z53:=sizeOf264
 v53:=zeroValue264
 t55:=underlying228
 a55:=isAgg228
 z55:=sizeOf228
 v55:=zeroValue228
 t66:=underlying330
 a66:=isAgg330
 z66:=sizeOf330
 v66:=zeroValue330
 t70:=underlying334
 a70:=isAgg334
 z70:=sizeOf334
 v70:=zeroValue334
 t76:=underlying336
 a76:=isAgg336
 z76:=sizeOf336
 v76:=zeroValue336
 t77:=underlying337
 a77:=isAgg337
 z77:=sizeOf337
 v77:=zeroValue337 }
end Go.Proofs
