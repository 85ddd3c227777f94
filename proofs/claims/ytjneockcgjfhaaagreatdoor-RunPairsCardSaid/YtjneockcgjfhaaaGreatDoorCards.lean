/-
  DERIVED. GIVEN WITH THE SEED: THE CARDS: each row of YtjneockcgjfhaaaGreatDoorRows.lean that lists a variable, with what it lists TIED to the program's text (the seventh form; the later family's looks); each row that meets fmt, with fmt's text TOLD by the authors' own Lean function (tested against real Go, not proved from fmt's source: count such statements apart). THE CARD IS WHAT COUNTS. Prove the row's statement (the work); the ties are given (YtjneockcgjfhaaaGreatDoorTie.lean); close each card by the builder's one call (the guide's Derived/Test/ToyasCard.lean, 'card_holds'). Laid BY PROGRAM, IN A SANDBOX (cutbox-door.mjs). By AI agents, Wed Nov 11 2026. No macro, syntax, notation, axiom, sorry.
-/
import Derived.Test.YtjneockcgjfhaaaGreatDoorRows
import GoSem.ClaimSeven
namespace Go.Proofs.YtjneockcgjfhaaaGreatDoor
namespace Rows

/-- THE TIED CARD OF 'castingslaw26.RunPairs'. -/
def runPairsCard : Claim7 := { stood := { row := runPairsRow, standIns := [], harness := (true, "664fcae47e406d4b79c1466f969cf2d5f79bd8fa781513941995c3a267d8ad1f"), looks := true }, kinds := [], alts := [], laidByText := true, laidKinds := [.data, .data, .data, .data, .sentinel, .sentinel, .data, .pinned], laidTests := true, laidLooks := .later }
def RunPairsCardSaid : Prop := Claim7.holds Tryz.pinned (.plain (OpenSpec.ofChange runPairsSpec)) runPairsCard

/-- THE SECOND FORM's CARD OF 'castingslaw26.RunPairs'. -/
def runPairsUptoCard : Claim7 := { stood := { row := runPairsUptoRow, standIns := [], harness := (true, "664fcae47e406d4b79c1466f969cf2d5f79bd8fa781513941995c3a267d8ad1f"), looks := true }, kinds := [], alts := [], laidByText := true, laidKinds := [.data, .data, .data, .data, .sentinel, .sentinel, .data, .pinned], laidTests := true, laidLooks := .later }
def RunPairsUptoCardSaid : Prop := Claim7.holds Tryz.pinned (.plain (OpenSpec.upto runPairsSpec)) runPairsUptoCard
end Rows
end Go.Proofs.YtjneockcgjfhaaaGreatDoor
