/-
  DERIVED. GIVEN WITH THE SEED: THE CARDS: each row of YtlpkdlopdccmmaaGreatDoorRows.lean that lists a variable, with what it lists TIED to the program's text (the seventh form; the later family's looks); each row that meets fmt, with fmt's text TOLD by the authors' own Lean function (tested against real Go, not proved from fmt's source: count such statements apart). THE CARD IS WHAT COUNTS. Prove the row's statement (the work); the ties are given (YtlpkdlopdccmmaaGreatDoorTie.lean); close each card by the builder's one call (the guide's Derived/Test/ToyasCard.lean, 'card_holds'). Laid BY PROGRAM, IN A SANDBOX (cutbox-door.mjs). By AI agents, Wed Nov 11 2026. No macro, syntax, notation, axiom, sorry.
-/
import Derived.Test.YtlpkdlopdccmmaaGreatDoorRows
import GoSem.ClaimSeven
namespace Go.Proofs.YtlpkdlopdccmmaaGreatDoor
namespace Rows

/-- THE TIED CARD OF 'castingslaw24.PlainMatchesReference'. -/
def plainMatchesReferenceCard : Claim7 := { stood := { row := plainMatchesReferenceRow, standIns := [], harness := (true, "3a31949aec472700bc75d8d7846e06faf5953410de2842ff7f2c87e7c9f3c9f0"), looks := true }, kinds := [], alts := [], laidByText := true, laidKinds := [.data, .data, .data, .handle], laidTests := true, laidLooks := .later }
def PlainMatchesReferenceCardSaid : Prop := Claim7.holds Tryz.pinned (.plain (OpenSpec.ofChange plainMatchesReferenceSpec)) plainMatchesReferenceCard

/-- THE TIED CARD OF 'castingslaw24.PlainNames'. -/
def plainNamesCard : Claim7 := { stood := { row := plainNamesRow, standIns := [], harness := (true, "3a31949aec472700bc75d8d7846e06faf5953410de2842ff7f2c87e7c9f3c9f0"), looks := true }, kinds := [], alts := [], laidByText := true, laidKinds := [.data, .data, .data, .handle], laidTests := true, laidLooks := .later }
def PlainNamesCardSaid : Prop := Claim7.holds Tryz.pinned (.plain (OpenSpec.ofChange plainNamesSpec)) plainNamesCard

/-- THE SECOND FORM's CARD OF 'castingslaw24.PlainMatchesReference'. -/
def plainMatchesReferenceUptoCard : Claim7 := { stood := { row := plainMatchesReferenceUptoRow, standIns := [], harness := (true, "3a31949aec472700bc75d8d7846e06faf5953410de2842ff7f2c87e7c9f3c9f0"), looks := true }, kinds := [], alts := [], laidByText := true, laidKinds := [.data, .data, .data, .handle], laidTests := true, laidLooks := .later }
def PlainMatchesReferenceUptoCardSaid : Prop := Claim7.holds Tryz.pinned (.plain (OpenSpec.upto plainMatchesReferenceSpec)) plainMatchesReferenceUptoCard

/-- THE SECOND FORM's CARD OF 'castingslaw24.PlainNames'. -/
def plainNamesUptoCard : Claim7 := { stood := { row := plainNamesUptoRow, standIns := [], harness := (true, "3a31949aec472700bc75d8d7846e06faf5953410de2842ff7f2c87e7c9f3c9f0"), looks := true }, kinds := [], alts := [], laidByText := true, laidKinds := [.data, .data, .data, .handle], laidTests := true, laidLooks := .later }
def PlainNamesUptoCardSaid : Prop := Claim7.holds Tryz.pinned (.plain (OpenSpec.upto plainNamesSpec)) plainNamesUptoCard
end Rows
end Go.Proofs.YtlpkdlopdccmmaaGreatDoor
