/-
  DERIVED. GIVEN WITH THE SEED: THE CARDS: each row of YtoajimpjknbnoaaGreatDoorRows.lean that lists a variable, with what it lists TIED to the program's text (the seventh form; the later family's looks); each row that meets fmt, with fmt's text TOLD by the authors' own Lean function (tested against real Go, not proved from fmt's source: count such statements apart). THE CARD IS WHAT COUNTS. Prove the row's statement (the work); the ties are given (YtoajimpjknbnoaaGreatDoorTie.lean); close each card by the builder's one call (the guide's Derived/Test/ToyasCard.lean, 'card_holds'). Laid BY PROGRAM, IN A SANDBOX (cutbox-door.mjs). By AI agents, Wed Nov 11 2026. No macro, syntax, notation, axiom, sorry.
-/
import Derived.Test.YtoajimpjknbnoaaGreatDoorRows
import GoSem.ClaimSeven
namespace Go.Proofs.YtoajimpjknbnoaaGreatDoor
namespace Rows

/-- THE TIED CARD OF 'castingslaw24.PlainStencils'. -/
def plainStencilsCard : Claim7 := { stood := { row := plainStencilsRow, standIns := [], harness := (true, "3d087baa80592866a46b82da170f095fafd3ce7a185da7b5c04eada892ce7562"), looks := true }, kinds := [], alts := [], laidByText := true, laidKinds := [.data, .data, .data, .handle], laidTests := true, laidLooks := .later }
def PlainStencilsCardSaid : Prop := Claim7.holds Tryz.pinned (.plain (OpenSpec.ofChange plainStencilsSpec)) plainStencilsCard

/-- THE SECOND FORM's CARD OF 'castingslaw24.PlainStencils'. -/
def plainStencilsUptoCard : Claim7 := { stood := { row := plainStencilsUptoRow, standIns := [], harness := (true, "3d087baa80592866a46b82da170f095fafd3ce7a185da7b5c04eada892ce7562"), looks := true }, kinds := [], alts := [], laidByText := true, laidKinds := [.data, .data, .data, .handle], laidTests := true, laidLooks := .later }
def PlainStencilsUptoCardSaid : Prop := Claim7.holds Tryz.pinned (.plain (OpenSpec.upto plainStencilsSpec)) plainStencilsUptoCard
end Rows
end Go.Proofs.YtoajimpjknbnoaaGreatDoor
