/-
  DERIVED. GIVEN WITH THE SEED: THE CARDS: each row of YtdohpbjgaaneeaaGreatDoorRows.lean that lists a variable, with what it lists TIED to the program's text (the seventh form; the later family's looks); each row that meets fmt, with fmt's text TOLD by the authors' own Lean function (tested against real Go, not proved from fmt's source: count such statements apart). THE CARD IS WHAT COUNTS. Prove the row's statement (the work); the ties are given (YtdohpbjgaaneeaaGreatDoorTie.lean); close each card by the builder's one call (the guide's Derived/Test/ToyasCard.lean, 'card_holds'). Laid BY PROGRAM, IN A SANDBOX (cutbox-door.mjs). By AI agents, Wed Nov 11 2026. No macro, syntax, notation, axiom, sorry.
-/
import Derived.Test.YtdohpbjgaaneeaaGreatDoorRows
import GoSem.ClaimSeven
namespace Go.Proofs.YtdohpbjgaaneeaaGreatDoor
namespace Rows

/-- THE TIED CARD OF 'castingslaw21.InstanceMatchesReference'. -/
def instanceMatchesReferenceCard : Claim7 := { stood := { row := instanceMatchesReferenceRow, standIns := [], harness := (true, "1398447de3b740640de0e12fa7f10c3ac33f1421a626ded3d76adf5a72bb31e8"), looks := true }, kinds := [], alts := [], laidByText := true, laidKinds := [.data, .data, .data], laidTests := true, laidLooks := .later }
def InstanceMatchesReferenceCardSaid : Prop := Claim7.holds Tryz.pinned (.plain (OpenSpec.ofChange instanceMatchesReferenceSpec)) instanceMatchesReferenceCard

/-- THE TIED CARD OF 'castingslaw21.InstanceBudgets'. -/
def instanceBudgetsCard : Claim7 := { stood := { row := instanceBudgetsRow, standIns := [], harness := (true, "1398447de3b740640de0e12fa7f10c3ac33f1421a626ded3d76adf5a72bb31e8"), looks := true }, kinds := [], alts := [], laidByText := true, laidKinds := [.data, .data, .data], laidTests := true, laidLooks := .later }
def InstanceBudgetsCardSaid : Prop := Claim7.holds Tryz.pinned (.plain (OpenSpec.ofChange instanceBudgetsSpec)) instanceBudgetsCard

/-- THE TIED CARD OF 'castingslaw21.InstanceMethods'. -/
def instanceMethodsCard : Claim7 := { stood := { row := instanceMethodsRow, standIns := [], harness := (true, "1398447de3b740640de0e12fa7f10c3ac33f1421a626ded3d76adf5a72bb31e8"), looks := true }, kinds := [], alts := [], laidByText := true, laidKinds := [.data, .data, .data], laidTests := true, laidLooks := .later }
def InstanceMethodsCardSaid : Prop := Claim7.holds Tryz.pinned (.plain (OpenSpec.ofChange instanceMethodsSpec)) instanceMethodsCard

/-- THE TIED CARD OF 'castingslaw21.InstancePlain'. -/
def instancePlainCard : Claim7 := { stood := { row := instancePlainRow, standIns := [], harness := (true, "1398447de3b740640de0e12fa7f10c3ac33f1421a626ded3d76adf5a72bb31e8"), looks := true }, kinds := [], alts := [], laidByText := true, laidKinds := [.data, .data, .data], laidTests := true, laidLooks := .later }
def InstancePlainCardSaid : Prop := Claim7.holds Tryz.pinned (.plain (OpenSpec.ofChange instancePlainSpec)) instancePlainCard

/-- THE TIED CARD OF 'castingslaw21.InstanceOrders'. -/
def instanceOrdersCard : Claim7 := { stood := { row := instanceOrdersRow, standIns := [], harness := (true, "1398447de3b740640de0e12fa7f10c3ac33f1421a626ded3d76adf5a72bb31e8"), looks := true }, kinds := [], alts := [], laidByText := true, laidKinds := [.data, .data, .data], laidTests := true, laidLooks := .later }
def InstanceOrdersCardSaid : Prop := Claim7.holds Tryz.pinned (.plain (OpenSpec.ofChange instanceOrdersSpec)) instanceOrdersCard

/-- THE TIED CARD OF 'castingslaw21.InstanceCloses'. -/
def instanceClosesCard : Claim7 := { stood := { row := instanceClosesRow, standIns := [], harness := (true, "1398447de3b740640de0e12fa7f10c3ac33f1421a626ded3d76adf5a72bb31e8"), looks := true }, kinds := [], alts := [], laidByText := true, laidKinds := [.data, .data, .data], laidTests := true, laidLooks := .later }
def InstanceClosesCardSaid : Prop := Claim7.holds Tryz.pinned (.plain (OpenSpec.ofChange instanceClosesSpec)) instanceClosesCard

/-- THE TIED CARD OF 'castingslaw26.RunTraces'. -/
def runTracesCard : Claim7 := { stood := { row := runTracesRow, standIns := [], harness := (true, "1398447de3b740640de0e12fa7f10c3ac33f1421a626ded3d76adf5a72bb31e8"), looks := true }, kinds := [], alts := [], laidByText := true, laidKinds := [.data, .data, .data, .data, .sentinel, .sentinel, .data, .pinned], laidTests := true, laidLooks := .later }
def RunTracesCardSaid : Prop := Claim7.holds Tryz.pinned (.plain (OpenSpec.ofChange runTracesSpec)) runTracesCard

/-- THE TIED CARD OF 'castingslaw26.RunMore'. -/
def runMoreCard : Claim7 := { stood := { row := runMoreRow, standIns := [], harness := (true, "1398447de3b740640de0e12fa7f10c3ac33f1421a626ded3d76adf5a72bb31e8"), looks := true }, kinds := [], alts := [], laidByText := true, laidKinds := [.data, .data, .data, .data, .sentinel, .sentinel, .data, .pinned], laidTests := true, laidLooks := .later }
def RunMoreCardSaid : Prop := Claim7.holds Tryz.pinned (.plain (OpenSpec.ofChange runMoreSpec)) runMoreCard

/-- THE TIED CARD OF 'castingslaw26.RunPairs'. -/
def runPairsCard : Claim7 := { stood := { row := runPairsRow, standIns := [], harness := (true, "1398447de3b740640de0e12fa7f10c3ac33f1421a626ded3d76adf5a72bb31e8"), looks := true }, kinds := [], alts := [], laidByText := true, laidKinds := [.data, .data, .data, .data, .sentinel, .sentinel, .data, .pinned], laidTests := true, laidLooks := .later }
def RunPairsCardSaid : Prop := Claim7.holds Tryz.pinned (.plain (OpenSpec.ofChange runPairsSpec)) runPairsCard

/-- THE TIED CARD OF 'castingslaw26.RunSplits'. -/
def runSplitsCard : Claim7 := { stood := { row := runSplitsRow, standIns := [], harness := (true, "1398447de3b740640de0e12fa7f10c3ac33f1421a626ded3d76adf5a72bb31e8"), looks := true }, kinds := [], alts := [], laidByText := true, laidKinds := [.data, .data, .data, .data, .sentinel, .sentinel, .data, .pinned], laidTests := true, laidLooks := .later }
def RunSplitsCardSaid : Prop := Claim7.holds Tryz.pinned (.plain (OpenSpec.ofChange runSplitsSpec)) runSplitsCard

/-- THE SECOND FORM's CARD OF 'castingslaw21.InstanceMatchesReference'. -/
def instanceMatchesReferenceUptoCard : Claim7 := { stood := { row := instanceMatchesReferenceUptoRow, standIns := [], harness := (true, "1398447de3b740640de0e12fa7f10c3ac33f1421a626ded3d76adf5a72bb31e8"), looks := true }, kinds := [], alts := [], laidByText := true, laidKinds := [.data, .data, .data], laidTests := true, laidLooks := .later }
def InstanceMatchesReferenceUptoCardSaid : Prop := Claim7.holds Tryz.pinned (.plain (OpenSpec.upto instanceMatchesReferenceSpec)) instanceMatchesReferenceUptoCard

/-- THE SECOND FORM's CARD OF 'castingslaw21.InstanceBudgets'. -/
def instanceBudgetsUptoCard : Claim7 := { stood := { row := instanceBudgetsUptoRow, standIns := [], harness := (true, "1398447de3b740640de0e12fa7f10c3ac33f1421a626ded3d76adf5a72bb31e8"), looks := true }, kinds := [], alts := [], laidByText := true, laidKinds := [.data, .data, .data], laidTests := true, laidLooks := .later }
def InstanceBudgetsUptoCardSaid : Prop := Claim7.holds Tryz.pinned (.plain (OpenSpec.upto instanceBudgetsSpec)) instanceBudgetsUptoCard

/-- THE SECOND FORM's CARD OF 'castingslaw21.InstanceMethods'. -/
def instanceMethodsUptoCard : Claim7 := { stood := { row := instanceMethodsUptoRow, standIns := [], harness := (true, "1398447de3b740640de0e12fa7f10c3ac33f1421a626ded3d76adf5a72bb31e8"), looks := true }, kinds := [], alts := [], laidByText := true, laidKinds := [.data, .data, .data], laidTests := true, laidLooks := .later }
def InstanceMethodsUptoCardSaid : Prop := Claim7.holds Tryz.pinned (.plain (OpenSpec.upto instanceMethodsSpec)) instanceMethodsUptoCard

/-- THE SECOND FORM's CARD OF 'castingslaw21.InstancePlain'. -/
def instancePlainUptoCard : Claim7 := { stood := { row := instancePlainUptoRow, standIns := [], harness := (true, "1398447de3b740640de0e12fa7f10c3ac33f1421a626ded3d76adf5a72bb31e8"), looks := true }, kinds := [], alts := [], laidByText := true, laidKinds := [.data, .data, .data], laidTests := true, laidLooks := .later }
def InstancePlainUptoCardSaid : Prop := Claim7.holds Tryz.pinned (.plain (OpenSpec.upto instancePlainSpec)) instancePlainUptoCard

/-- THE SECOND FORM's CARD OF 'castingslaw21.InstanceOrders'. -/
def instanceOrdersUptoCard : Claim7 := { stood := { row := instanceOrdersUptoRow, standIns := [], harness := (true, "1398447de3b740640de0e12fa7f10c3ac33f1421a626ded3d76adf5a72bb31e8"), looks := true }, kinds := [], alts := [], laidByText := true, laidKinds := [.data, .data, .data], laidTests := true, laidLooks := .later }
def InstanceOrdersUptoCardSaid : Prop := Claim7.holds Tryz.pinned (.plain (OpenSpec.upto instanceOrdersSpec)) instanceOrdersUptoCard

/-- THE SECOND FORM's CARD OF 'castingslaw21.InstanceCloses'. -/
def instanceClosesUptoCard : Claim7 := { stood := { row := instanceClosesUptoRow, standIns := [], harness := (true, "1398447de3b740640de0e12fa7f10c3ac33f1421a626ded3d76adf5a72bb31e8"), looks := true }, kinds := [], alts := [], laidByText := true, laidKinds := [.data, .data, .data], laidTests := true, laidLooks := .later }
def InstanceClosesUptoCardSaid : Prop := Claim7.holds Tryz.pinned (.plain (OpenSpec.upto instanceClosesSpec)) instanceClosesUptoCard

/-- THE SECOND FORM's CARD OF 'castingslaw26.RunTraces'. -/
def runTracesUptoCard : Claim7 := { stood := { row := runTracesUptoRow, standIns := [], harness := (true, "1398447de3b740640de0e12fa7f10c3ac33f1421a626ded3d76adf5a72bb31e8"), looks := true }, kinds := [], alts := [], laidByText := true, laidKinds := [.data, .data, .data, .data, .sentinel, .sentinel, .data, .pinned], laidTests := true, laidLooks := .later }
def RunTracesUptoCardSaid : Prop := Claim7.holds Tryz.pinned (.plain (OpenSpec.upto runTracesSpec)) runTracesUptoCard

/-- THE SECOND FORM's CARD OF 'castingslaw26.RunMore'. -/
def runMoreUptoCard : Claim7 := { stood := { row := runMoreUptoRow, standIns := [], harness := (true, "1398447de3b740640de0e12fa7f10c3ac33f1421a626ded3d76adf5a72bb31e8"), looks := true }, kinds := [], alts := [], laidByText := true, laidKinds := [.data, .data, .data, .data, .sentinel, .sentinel, .data, .pinned], laidTests := true, laidLooks := .later }
def RunMoreUptoCardSaid : Prop := Claim7.holds Tryz.pinned (.plain (OpenSpec.upto runMoreSpec)) runMoreUptoCard

/-- THE SECOND FORM's CARD OF 'castingslaw26.RunPairs'. -/
def runPairsUptoCard : Claim7 := { stood := { row := runPairsUptoRow, standIns := [], harness := (true, "1398447de3b740640de0e12fa7f10c3ac33f1421a626ded3d76adf5a72bb31e8"), looks := true }, kinds := [], alts := [], laidByText := true, laidKinds := [.data, .data, .data, .data, .sentinel, .sentinel, .data, .pinned], laidTests := true, laidLooks := .later }
def RunPairsUptoCardSaid : Prop := Claim7.holds Tryz.pinned (.plain (OpenSpec.upto runPairsSpec)) runPairsUptoCard

/-- THE SECOND FORM's CARD OF 'castingslaw26.RunSplits'. -/
def runSplitsUptoCard : Claim7 := { stood := { row := runSplitsUptoRow, standIns := [], harness := (true, "1398447de3b740640de0e12fa7f10c3ac33f1421a626ded3d76adf5a72bb31e8"), looks := true }, kinds := [], alts := [], laidByText := true, laidKinds := [.data, .data, .data, .data, .sentinel, .sentinel, .data, .pinned], laidTests := true, laidLooks := .later }
def RunSplitsUptoCardSaid : Prop := Claim7.holds Tryz.pinned (.plain (OpenSpec.upto runSplitsSpec)) runSplitsUptoCard
end Rows
end Go.Proofs.YtdohpbjgaaneeaaGreatDoor
