/-
  DERIVED: THE SHELF's CONTRACTS AT THIS DUMP, IN PLAIN WORDS (tools/lay-plain.mjs out of 'YtcmlfpcaeflleaaGreatDoorShelfW.lean', which tools/lay-shelf.mjs wrote): THE SAME DECLARATIONS UNDER THE SAME NAMES: 'import', 'namespace', 'open', 'def', 'theorem' AND NOTHING ELSE: no command of the shelf's: FOR A HAND-IN. Each laying: the table of numbers ('.._ren') and one theorem, a field a fact of the dump's own or the kernel's comparison; each contract: ONE APPLICATION.
-/
import Derived.Shelf.SlMaps.Clone
import Derived.Test.YtcmlfpcaeflleaaGreatDoorProg
set_option linter.all false
namespace Go.Proofs
open Go.Shelf Tryz
def Tryz.F7j:Go.Shelf.Ren:=⟨fun|5=>84|7=>143|n=>n,fun|23=>79|25=>9|3=>25|4=>4|20=>20|n=>n,fun|n=>n⟩
def Tryz.G2x:Go.Proofs.SlLaysW.n5 Tryz.prog Tryz.F7j:={
 mixed:=by kernel_rfl
 f5:=⟨Tryz.f84.name,by decide,func84.trans (congrArg some (by kernel_rfl))⟩
 f7:=func143.trans (congrArg some (by kernel_rfl))
 t4:=underlying4
 a4:=isAgg4
 z4:=sizeOf4
 v4:=zeroValue4
 t20:=underlying20
 a20:=isAgg20
 z20:=sizeOf20
 v20:=zeroValue20
 t23:=underlying79
 a23:=isAgg79
 z23:=sizeOf79
 v23:=zeroValue79 }
def Tryz.E8e:Go.Shelf.Ren:=⟨fun|5=>87|7=>143|n=>n,fun|23=>80|25=>9|3=>53|4=>4|20=>20|n=>n,fun|n=>n⟩
def Tryz.F9c:Go.Proofs.SlLaysW.n5 Tryz.prog Tryz.E8e:={
 mixed:=by kernel_rfl
 f5:=⟨Tryz.f87.name,by decide,func87.trans (congrArg some (by kernel_rfl))⟩
 f7:=func143.trans (congrArg some (by kernel_rfl))
 t4:=underlying4
 a4:=isAgg4
 z4:=sizeOf4
 v4:=zeroValue4
 t20:=underlying20
 a20:=isAgg20
 z20:=sizeOf20
 v20:=zeroValue20
 t23:=underlying80
 a23:=isAgg80
 z23:=sizeOf80
 v23:=zeroValue80 }
end Go.Proofs
