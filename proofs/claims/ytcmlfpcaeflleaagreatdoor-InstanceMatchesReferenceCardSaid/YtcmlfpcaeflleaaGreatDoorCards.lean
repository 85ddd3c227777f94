/-
  DERIVED. GIVEN WITH THE SEED: THE CARDS: each row of YtcmlfpcaeflleaaGreatDoorRows.lean that lists a variable, with what it lists TIED to the program's text (the seventh form; the later family's looks); each row that meets fmt, with fmt's text TOLD by the authors' own Lean function (tested against real Go, not proved from fmt's source: count such statements apart). THE CARD IS WHAT COUNTS. Prove the row's statement (the work); the ties are given (YtcmlfpcaeflleaaGreatDoorTie.lean); close each card by the builder's one call (the guide's Derived/Test/ToyasCard.lean, 'card_holds'). Laid BY PROGRAM, IN A SANDBOX (cutbox-door.mjs). By AI agents, Wed Nov 11 2026. No macro, syntax, notation, axiom, sorry.
-/
import Derived.Test.YtcmlfpcaeflleaaGreatDoorRows
import GoSem.ClaimSeven
namespace Go.Proofs.YtcmlfpcaeflleaaGreatDoor
namespace Rows

/-- THE TIED CARD OF 'castingslaw21.InstanceMatchesReference'. -/
def instanceMatchesReferenceCard : Claim7 := { stood := { row := instanceMatchesReferenceRow, standIns := [], harness := (true, "c42edb424f26ca866ca1ec54dbf62a3300d32448bd7f28dd09af8a3762dfa1c8"), looks := true }, kinds := [], alts := [], laidByText := true, laidKinds := [.data, .data, .data], laidTests := true, laidLooks := .later }
def InstanceMatchesReferenceCardSaid : Prop := Claim7.holds Tryz.pinned (.plain (OpenSpec.ofChange instanceMatchesReferenceSpec)) instanceMatchesReferenceCard

/-- THE TIED CARD OF 'castingslaw21.InstanceBudgets'. -/
def instanceBudgetsCard : Claim7 := { stood := { row := instanceBudgetsRow, standIns := [], harness := (true, "c42edb424f26ca866ca1ec54dbf62a3300d32448bd7f28dd09af8a3762dfa1c8"), looks := true }, kinds := [], alts := [], laidByText := true, laidKinds := [.data, .data, .data], laidTests := true, laidLooks := .later }
def InstanceBudgetsCardSaid : Prop := Claim7.holds Tryz.pinned (.plain (OpenSpec.ofChange instanceBudgetsSpec)) instanceBudgetsCard

/-- THE TIED CARD OF 'castingslaw21.InstanceMethods'. -/
def instanceMethodsCard : Claim7 := { stood := { row := instanceMethodsRow, standIns := [], harness := (true, "c42edb424f26ca866ca1ec54dbf62a3300d32448bd7f28dd09af8a3762dfa1c8"), looks := true }, kinds := [], alts := [], laidByText := true, laidKinds := [.data, .data, .data], laidTests := true, laidLooks := .later }
def InstanceMethodsCardSaid : Prop := Claim7.holds Tryz.pinned (.plain (OpenSpec.ofChange instanceMethodsSpec)) instanceMethodsCard

/-- THE TIED CARD OF 'castingslaw21.InstancePlain'. -/
def instancePlainCard : Claim7 := { stood := { row := instancePlainRow, standIns := [], harness := (true, "c42edb424f26ca866ca1ec54dbf62a3300d32448bd7f28dd09af8a3762dfa1c8"), looks := true }, kinds := [], alts := [], laidByText := true, laidKinds := [.data, .data, .data], laidTests := true, laidLooks := .later }
def InstancePlainCardSaid : Prop := Claim7.holds Tryz.pinned (.plain (OpenSpec.ofChange instancePlainSpec)) instancePlainCard

/-- THE TIED CARD OF 'castingslaw21.InstanceCloses'. -/
def instanceClosesCard : Claim7 := { stood := { row := instanceClosesRow, standIns := [], harness := (true, "c42edb424f26ca866ca1ec54dbf62a3300d32448bd7f28dd09af8a3762dfa1c8"), looks := true }, kinds := [], alts := [], laidByText := true, laidKinds := [.data, .data, .data], laidTests := true, laidLooks := .later }
def InstanceClosesCardSaid : Prop := Claim7.holds Tryz.pinned (.plain (OpenSpec.ofChange instanceClosesSpec)) instanceClosesCard

/-- THE SECOND FORM's CARD OF 'castingslaw21.InstanceMatchesReference'. -/
def instanceMatchesReferenceUptoCard : Claim7 := { stood := { row := instanceMatchesReferenceUptoRow, standIns := [], harness := (true, "c42edb424f26ca866ca1ec54dbf62a3300d32448bd7f28dd09af8a3762dfa1c8"), looks := true }, kinds := [], alts := [], laidByText := true, laidKinds := [.data, .data, .data], laidTests := true, laidLooks := .later }
def InstanceMatchesReferenceUptoCardSaid : Prop := Claim7.holds Tryz.pinned (.plain (OpenSpec.upto instanceMatchesReferenceSpec)) instanceMatchesReferenceUptoCard

/-- THE SECOND FORM's CARD OF 'castingslaw21.InstanceBudgets'. -/
def instanceBudgetsUptoCard : Claim7 := { stood := { row := instanceBudgetsUptoRow, standIns := [], harness := (true, "c42edb424f26ca866ca1ec54dbf62a3300d32448bd7f28dd09af8a3762dfa1c8"), looks := true }, kinds := [], alts := [], laidByText := true, laidKinds := [.data, .data, .data], laidTests := true, laidLooks := .later }
def InstanceBudgetsUptoCardSaid : Prop := Claim7.holds Tryz.pinned (.plain (OpenSpec.upto instanceBudgetsSpec)) instanceBudgetsUptoCard

/-- THE SECOND FORM's CARD OF 'castingslaw21.InstanceMethods'. -/
def instanceMethodsUptoCard : Claim7 := { stood := { row := instanceMethodsUptoRow, standIns := [], harness := (true, "c42edb424f26ca866ca1ec54dbf62a3300d32448bd7f28dd09af8a3762dfa1c8"), looks := true }, kinds := [], alts := [], laidByText := true, laidKinds := [.data, .data, .data], laidTests := true, laidLooks := .later }
def InstanceMethodsUptoCardSaid : Prop := Claim7.holds Tryz.pinned (.plain (OpenSpec.upto instanceMethodsSpec)) instanceMethodsUptoCard

/-- THE SECOND FORM's CARD OF 'castingslaw21.InstancePlain'. -/
def instancePlainUptoCard : Claim7 := { stood := { row := instancePlainUptoRow, standIns := [], harness := (true, "c42edb424f26ca866ca1ec54dbf62a3300d32448bd7f28dd09af8a3762dfa1c8"), looks := true }, kinds := [], alts := [], laidByText := true, laidKinds := [.data, .data, .data], laidTests := true, laidLooks := .later }
def InstancePlainUptoCardSaid : Prop := Claim7.holds Tryz.pinned (.plain (OpenSpec.upto instancePlainSpec)) instancePlainUptoCard

/-- THE SECOND FORM's CARD OF 'castingslaw21.InstanceCloses'. -/
def instanceClosesUptoCard : Claim7 := { stood := { row := instanceClosesUptoRow, standIns := [], harness := (true, "c42edb424f26ca866ca1ec54dbf62a3300d32448bd7f28dd09af8a3762dfa1c8"), looks := true }, kinds := [], alts := [], laidByText := true, laidKinds := [.data, .data, .data], laidTests := true, laidLooks := .later }
def InstanceClosesUptoCardSaid : Prop := Claim7.holds Tryz.pinned (.plain (OpenSpec.upto instanceClosesSpec)) instanceClosesUptoCard
end Rows
end Go.Proofs.YtcmlfpcaeflleaaGreatDoor
