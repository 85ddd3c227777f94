/-
  DERIVED. GIVEN WITH THE SEED: THE CARDS: each row of YtfjaahliphbklaaGreatDoorRows.lean that lists a variable, with what it lists TIED to the program's text (the seventh form; the later family's looks); each row that meets fmt, with fmt's text TOLD by the authors' own Lean function (tested against real Go, not proved from fmt's source: count such statements apart). THE CARD IS WHAT COUNTS. Prove the row's statement (the work); the ties are given (YtfjaahliphbklaaGreatDoorTie.lean); close each card by the builder's one call (the guide's Derived/Test/ToyasCard.lean, 'card_holds'). Laid BY PROGRAM, IN A SANDBOX (cutbox-door.mjs). By AI agents, Wed Nov 11 2026. No macro, syntax, notation, axiom, sorry.
-/
import Derived.Test.YtfjaahliphbklaaGreatDoorRows
import GoSem.ClaimSeven
namespace Go.Proofs.YtfjaahliphbklaaGreatDoor
namespace Rows

/-- THE TIED CARD OF 'castingslaw23.StencilMatchesReference'. -/
def stencilMatchesReferenceCard : Claim7 := { stood := { row := stencilMatchesReferenceRow, standIns := [], harness := (true, "cbff77e77fd94969d8478314ce7752227624b97f47f8740250b68007891885ab"), looks := true }, kinds := [], alts := [], laidByText := true, laidKinds := [.data, .data, .data, .data, .sentinel, .sentinel, .pinned], laidTests := true, laidLooks := .later }
def StencilMatchesReferenceCardSaid : Prop := Claim7.holds Tryz.pinned (.plain (OpenSpec.ofChange stencilMatchesReferenceSpec)) stencilMatchesReferenceCard

/-- THE TIED CARD OF 'castingslaw23.StencilTypes'. -/
def stencilTypesCard : Claim7 := { stood := { row := stencilTypesRow, standIns := [], harness := (true, "cbff77e77fd94969d8478314ce7752227624b97f47f8740250b68007891885ab"), looks := true }, kinds := [], alts := [], laidByText := true, laidKinds := [.data, .data, .data, .data, .sentinel, .sentinel, .pinned], laidTests := true, laidLooks := .later }
def StencilTypesCardSaid : Prop := Claim7.holds Tryz.pinned (.plain (OpenSpec.ofChange stencilTypesSpec)) stencilTypesCard

/-- THE SECOND FORM's CARD OF 'castingslaw23.StencilMatchesReference'. -/
def stencilMatchesReferenceUptoCard : Claim7 := { stood := { row := stencilMatchesReferenceUptoRow, standIns := [], harness := (true, "cbff77e77fd94969d8478314ce7752227624b97f47f8740250b68007891885ab"), looks := true }, kinds := [], alts := [], laidByText := true, laidKinds := [.data, .data, .data, .data, .sentinel, .sentinel, .pinned], laidTests := true, laidLooks := .later }
def StencilMatchesReferenceUptoCardSaid : Prop := Claim7.holds Tryz.pinned (.plain (OpenSpec.upto stencilMatchesReferenceSpec)) stencilMatchesReferenceUptoCard

/-- THE SECOND FORM's CARD OF 'castingslaw23.StencilTypes'. -/
def stencilTypesUptoCard : Claim7 := { stood := { row := stencilTypesUptoRow, standIns := [], harness := (true, "cbff77e77fd94969d8478314ce7752227624b97f47f8740250b68007891885ab"), looks := true }, kinds := [], alts := [], laidByText := true, laidKinds := [.data, .data, .data, .data, .sentinel, .sentinel, .pinned], laidTests := true, laidLooks := .later }
def StencilTypesUptoCardSaid : Prop := Claim7.holds Tryz.pinned (.plain (OpenSpec.upto stencilTypesSpec)) stencilTypesUptoCard
end Rows
end Go.Proofs.YtfjaahliphbklaaGreatDoor
