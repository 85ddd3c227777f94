/-
  DERIVED. GIVEN WITH THE SEED: THE CARDS: each row of YtieakoebgfiniaaGreatDoorRows.lean that lists a variable, with what it lists TIED to the program's text (the seventh form; the later family's looks); each row that meets fmt, with fmt's text TOLD by the authors' own Lean function (tested against real Go, not proved from fmt's source: count such statements apart). THE CARD IS WHAT COUNTS. Prove the row's statement (the work); the ties are given (YtieakoebgfiniaaGreatDoorTie.lean); close each card by the builder's one call (the guide's Derived/Test/ToyasCard.lean, 'card_holds'). Laid BY PROGRAM, IN A SANDBOX (cutbox-door.mjs). By AI agents, Wed Nov 11 2026. No macro, syntax, notation, axiom, sorry.
-/
import Derived.Test.YtieakoebgfiniaaGreatDoorRows
import GoSem.ClaimSeven
namespace Go.Proofs.YtieakoebgfiniaaGreatDoor
namespace Rows

/-- THE TIED CARD OF 'castingslaw24.PlainStencils'. -/
def plainStencilsCard : Claim7 := { stood := { row := plainStencilsRow, standIns := [], harness := (true, "901a7f24fcbeeeec759a04d1724f227301ac768545a40d432b36ab9ce8731bab"), looks := true }, kinds := [], alts := [], laidByText := true, laidKinds := [.data, .data, .data, .handle], laidTests := true, laidLooks := .later }
def PlainStencilsCardSaid : Prop := Claim7.holds Tryz.pinned (.plain (OpenSpec.ofChange plainStencilsSpec)) plainStencilsCard

/-- THE TIED CARD OF 'castingslaw24.PlainImplements'. -/
def plainImplementsCard : Claim7 := { stood := { row := plainImplementsRow, standIns := [], harness := (true, "901a7f24fcbeeeec759a04d1724f227301ac768545a40d432b36ab9ce8731bab"), looks := true }, kinds := [], alts := [], laidByText := true, laidKinds := [.data, .data, .data, .handle], laidTests := true, laidLooks := .later }
def PlainImplementsCardSaid : Prop := Claim7.holds Tryz.pinned (.plain (OpenSpec.ofChange plainImplementsSpec)) plainImplementsCard

/-- THE SECOND FORM's CARD OF 'castingslaw24.PlainStencils'. -/
def plainStencilsUptoCard : Claim7 := { stood := { row := plainStencilsUptoRow, standIns := [], harness := (true, "901a7f24fcbeeeec759a04d1724f227301ac768545a40d432b36ab9ce8731bab"), looks := true }, kinds := [], alts := [], laidByText := true, laidKinds := [.data, .data, .data, .handle], laidTests := true, laidLooks := .later }
def PlainStencilsUptoCardSaid : Prop := Claim7.holds Tryz.pinned (.plain (OpenSpec.upto plainStencilsSpec)) plainStencilsUptoCard

/-- THE SECOND FORM's CARD OF 'castingslaw24.PlainImplements'. -/
def plainImplementsUptoCard : Claim7 := { stood := { row := plainImplementsUptoRow, standIns := [], harness := (true, "901a7f24fcbeeeec759a04d1724f227301ac768545a40d432b36ab9ce8731bab"), looks := true }, kinds := [], alts := [], laidByText := true, laidKinds := [.data, .data, .data, .handle], laidTests := true, laidLooks := .later }
def PlainImplementsUptoCardSaid : Prop := Claim7.holds Tryz.pinned (.plain (OpenSpec.upto plainImplementsSpec)) plainImplementsUptoCard
end Rows
end Go.Proofs.YtieakoebgfiniaaGreatDoor
