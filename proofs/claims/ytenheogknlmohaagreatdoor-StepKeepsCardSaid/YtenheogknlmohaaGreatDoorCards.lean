/-
  DERIVED. GIVEN WITH THE SEED: THE CARDS: each row of YtenheogknlmohaaGreatDoorRows.lean that lists a variable, with what it lists TIED to the program's text (the seventh form; the later family's looks); each row that meets fmt, with fmt's text TOLD by the authors' own Lean function (tested against real Go, not proved from fmt's source: count such statements apart). THE CARD IS WHAT COUNTS. Prove the row's statement (the work); the ties are given (YtenheogknlmohaaGreatDoorTie.lean); close each card by the builder's one call (the guide's Derived/Test/ToyasCard.lean, 'card_holds'). Laid BY PROGRAM, IN A SANDBOX (cutbox-door.mjs). By AI agents, Wed Nov 11 2026. No macro, syntax, notation, axiom, sorry.
-/
import Derived.Test.YtenheogknlmohaaGreatDoorRows
import GoSem.ClaimSeven
namespace Go.Proofs.YtenheogknlmohaaGreatDoor
namespace Rows

/-- THE TIED CARD OF 'castingslaw25.StepMatchesReference'. -/
def stepMatchesReferenceCard : Claim7 := { stood := { row := stepMatchesReferenceRow, standIns := [], harness := (true, "a715cc74e62b1a36194da56284bacc18da132bd28290aadb0bf32919f76e3180"), looks := true }, kinds := [], alts := [], laidByText := true, laidKinds := [.data, .data, .data], laidTests := true, laidLooks := .later }
def StepMatchesReferenceCardSaid : Prop := Claim7.holds Tryz.pinned (.plain (OpenSpec.ofChange stepMatchesReferenceSpec)) stepMatchesReferenceCard

/-- THE TIED CARD OF 'castingslaw25.StepProgress'. -/
def stepProgressCard : Claim7 := { stood := { row := stepProgressRow, standIns := [], harness := (true, "a715cc74e62b1a36194da56284bacc18da132bd28290aadb0bf32919f76e3180"), looks := true }, kinds := [], alts := [], laidByText := true, laidKinds := [.data, .data, .data], laidTests := true, laidLooks := .later }
def StepProgressCardSaid : Prop := Claim7.holds Tryz.pinned (.plain (OpenSpec.ofChange stepProgressSpec)) stepProgressCard

/-- THE TIED CARD OF 'castingslaw25.StepSplits'. -/
def stepSplitsCard : Claim7 := { stood := { row := stepSplitsRow, standIns := [], harness := (true, "a715cc74e62b1a36194da56284bacc18da132bd28290aadb0bf32919f76e3180"), looks := true }, kinds := [], alts := [], laidByText := true, laidKinds := [.data, .data, .data], laidTests := true, laidLooks := .later }
def StepSplitsCardSaid : Prop := Claim7.holds Tryz.pinned (.plain (OpenSpec.ofChange stepSplitsSpec)) stepSplitsCard

/-- THE TIED CARD OF 'castingslaw13.ImplMatchesReference'. -/
def implMatchesReferenceCard : Claim7 := { stood := { row := implMatchesReferenceRow, standIns := [], harness := (true, "a715cc74e62b1a36194da56284bacc18da132bd28290aadb0bf32919f76e3180"), looks := true }, kinds := [], alts := [], laidByText := true, laidKinds := [.data, .data, .data, .handle], laidTests := true, laidLooks := .later }
def ImplMatchesReferenceCardSaid : Prop := Claim7.holds Tryz.pinned (.plain (OpenSpec.ofChange implMatchesReferenceSpec)) implMatchesReferenceCard

/-- THE TIED CARD OF 'castingslaw13.ImplChecks'. -/
def implChecksCard : Claim7 := { stood := { row := implChecksRow, standIns := [], harness := (true, "a715cc74e62b1a36194da56284bacc18da132bd28290aadb0bf32919f76e3180"), looks := true }, kinds := [], alts := [], laidByText := true, laidKinds := [.data, .data, .data, .handle], laidTests := true, laidLooks := .later }
def ImplChecksCardSaid : Prop := Claim7.holds Tryz.pinned (.plain (OpenSpec.ofChange implChecksSpec)) implChecksCard

/-- THE TIED CARD OF 'castingslaw13.ImplLaws'. -/
def implLawsCard : Claim7 := { stood := { row := implLawsRow, standIns := [], harness := (true, "a715cc74e62b1a36194da56284bacc18da132bd28290aadb0bf32919f76e3180"), looks := true }, kinds := [], alts := [], laidByText := true, laidKinds := [.data, .data, .data, .handle], laidTests := true, laidLooks := .later }
def ImplLawsCardSaid : Prop := Claim7.holds Tryz.pinned (.plain (OpenSpec.ofChange implLawsSpec)) implLawsCard

/-- THE TIED CARD OF 'castingslaw13.ImplBounds'. -/
def implBoundsCard : Claim7 := { stood := { row := implBoundsRow, standIns := [], harness := (true, "a715cc74e62b1a36194da56284bacc18da132bd28290aadb0bf32919f76e3180"), looks := true }, kinds := [], alts := [], laidByText := true, laidKinds := [.data, .data, .data, .handle], laidTests := true, laidLooks := .later }
def ImplBoundsCardSaid : Prop := Claim7.holds Tryz.pinned (.plain (OpenSpec.ofChange implBoundsSpec)) implBoundsCard

/-- THE TIED CARD OF 'castingslaw13.ImplSelf'. -/
def implSelfCard : Claim7 := { stood := { row := implSelfRow, standIns := [], harness := (true, "a715cc74e62b1a36194da56284bacc18da132bd28290aadb0bf32919f76e3180"), looks := true }, kinds := [], alts := [], laidByText := true, laidKinds := [.data, .data, .data, .handle], laidTests := true, laidLooks := .later }
def ImplSelfCardSaid : Prop := Claim7.holds Tryz.pinned (.plain (OpenSpec.ofChange implSelfSpec)) implSelfCard

/-- THE TIED CARD OF 'castingslaw25.StepKeeps'. -/
def stepKeepsCard : Claim7 := { stood := { row := stepKeepsRow, standIns := [], harness := (true, "a715cc74e62b1a36194da56284bacc18da132bd28290aadb0bf32919f76e3180"), looks := true }, kinds := [], alts := [], laidByText := true, laidKinds := [.data, .data, .data], laidTests := true, laidLooks := .later }
def StepKeepsCardSaid : Prop := Claim7.holds Tryz.pinned (.plain (OpenSpec.ofChange stepKeepsSpec)) stepKeepsCard

/-- THE SECOND FORM's CARD OF 'castingslaw25.StepMatchesReference'. -/
def stepMatchesReferenceUptoCard : Claim7 := { stood := { row := stepMatchesReferenceUptoRow, standIns := [], harness := (true, "a715cc74e62b1a36194da56284bacc18da132bd28290aadb0bf32919f76e3180"), looks := true }, kinds := [], alts := [], laidByText := true, laidKinds := [.data, .data, .data], laidTests := true, laidLooks := .later }
def StepMatchesReferenceUptoCardSaid : Prop := Claim7.holds Tryz.pinned (.plain (OpenSpec.upto stepMatchesReferenceSpec)) stepMatchesReferenceUptoCard

/-- THE SECOND FORM's CARD OF 'castingslaw25.StepProgress'. -/
def stepProgressUptoCard : Claim7 := { stood := { row := stepProgressUptoRow, standIns := [], harness := (true, "a715cc74e62b1a36194da56284bacc18da132bd28290aadb0bf32919f76e3180"), looks := true }, kinds := [], alts := [], laidByText := true, laidKinds := [.data, .data, .data], laidTests := true, laidLooks := .later }
def StepProgressUptoCardSaid : Prop := Claim7.holds Tryz.pinned (.plain (OpenSpec.upto stepProgressSpec)) stepProgressUptoCard

/-- THE SECOND FORM's CARD OF 'castingslaw25.StepSplits'. -/
def stepSplitsUptoCard : Claim7 := { stood := { row := stepSplitsUptoRow, standIns := [], harness := (true, "a715cc74e62b1a36194da56284bacc18da132bd28290aadb0bf32919f76e3180"), looks := true }, kinds := [], alts := [], laidByText := true, laidKinds := [.data, .data, .data], laidTests := true, laidLooks := .later }
def StepSplitsUptoCardSaid : Prop := Claim7.holds Tryz.pinned (.plain (OpenSpec.upto stepSplitsSpec)) stepSplitsUptoCard

/-- THE SECOND FORM's CARD OF 'castingslaw13.ImplMatchesReference'. -/
def implMatchesReferenceUptoCard : Claim7 := { stood := { row := implMatchesReferenceUptoRow, standIns := [], harness := (true, "a715cc74e62b1a36194da56284bacc18da132bd28290aadb0bf32919f76e3180"), looks := true }, kinds := [], alts := [], laidByText := true, laidKinds := [.data, .data, .data, .handle], laidTests := true, laidLooks := .later }
def ImplMatchesReferenceUptoCardSaid : Prop := Claim7.holds Tryz.pinned (.plain (OpenSpec.upto implMatchesReferenceSpec)) implMatchesReferenceUptoCard

/-- THE SECOND FORM's CARD OF 'castingslaw13.ImplChecks'. -/
def implChecksUptoCard : Claim7 := { stood := { row := implChecksUptoRow, standIns := [], harness := (true, "a715cc74e62b1a36194da56284bacc18da132bd28290aadb0bf32919f76e3180"), looks := true }, kinds := [], alts := [], laidByText := true, laidKinds := [.data, .data, .data, .handle], laidTests := true, laidLooks := .later }
def ImplChecksUptoCardSaid : Prop := Claim7.holds Tryz.pinned (.plain (OpenSpec.upto implChecksSpec)) implChecksUptoCard

/-- THE SECOND FORM's CARD OF 'castingslaw13.ImplLaws'. -/
def implLawsUptoCard : Claim7 := { stood := { row := implLawsUptoRow, standIns := [], harness := (true, "a715cc74e62b1a36194da56284bacc18da132bd28290aadb0bf32919f76e3180"), looks := true }, kinds := [], alts := [], laidByText := true, laidKinds := [.data, .data, .data, .handle], laidTests := true, laidLooks := .later }
def ImplLawsUptoCardSaid : Prop := Claim7.holds Tryz.pinned (.plain (OpenSpec.upto implLawsSpec)) implLawsUptoCard

/-- THE SECOND FORM's CARD OF 'castingslaw13.ImplBounds'. -/
def implBoundsUptoCard : Claim7 := { stood := { row := implBoundsUptoRow, standIns := [], harness := (true, "a715cc74e62b1a36194da56284bacc18da132bd28290aadb0bf32919f76e3180"), looks := true }, kinds := [], alts := [], laidByText := true, laidKinds := [.data, .data, .data, .handle], laidTests := true, laidLooks := .later }
def ImplBoundsUptoCardSaid : Prop := Claim7.holds Tryz.pinned (.plain (OpenSpec.upto implBoundsSpec)) implBoundsUptoCard

/-- THE SECOND FORM's CARD OF 'castingslaw13.ImplSelf'. -/
def implSelfUptoCard : Claim7 := { stood := { row := implSelfUptoRow, standIns := [], harness := (true, "a715cc74e62b1a36194da56284bacc18da132bd28290aadb0bf32919f76e3180"), looks := true }, kinds := [], alts := [], laidByText := true, laidKinds := [.data, .data, .data, .handle], laidTests := true, laidLooks := .later }
def ImplSelfUptoCardSaid : Prop := Claim7.holds Tryz.pinned (.plain (OpenSpec.upto implSelfSpec)) implSelfUptoCard

/-- THE SECOND FORM's CARD OF 'castingslaw25.StepKeeps'. -/
def stepKeepsUptoCard : Claim7 := { stood := { row := stepKeepsUptoRow, standIns := [], harness := (true, "a715cc74e62b1a36194da56284bacc18da132bd28290aadb0bf32919f76e3180"), looks := true }, kinds := [], alts := [], laidByText := true, laidKinds := [.data, .data, .data], laidTests := true, laidLooks := .later }
def StepKeepsUptoCardSaid : Prop := Claim7.holds Tryz.pinned (.plain (OpenSpec.upto stepKeepsSpec)) stepKeepsUptoCard
end Rows
end Go.Proofs.YtenheogknlmohaaGreatDoor
