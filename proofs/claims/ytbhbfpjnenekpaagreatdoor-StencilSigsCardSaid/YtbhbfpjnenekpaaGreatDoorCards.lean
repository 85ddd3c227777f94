/-
  DERIVED. GIVEN WITH THE SEED: THE CARDS: each row of YtbhbfpjnenekpaaGreatDoorRows.lean that lists a variable, with what it lists TIED to the program's text (the seventh form; the later family's looks); each row that meets fmt, with fmt's text TOLD by the authors' own Lean function (tested against real Go, not proved from fmt's source: count such statements apart). THE CARD IS WHAT COUNTS. Prove the row's statement (the work); the ties are given (YtbhbfpjnenekpaaGreatDoorTie.lean); close each card by the builder's one call (the guide's Derived/Test/ToyasCard.lean, 'card_holds'). Laid BY PROGRAM, IN A SANDBOX (cutbox-door.mjs). By AI agents, Wed Nov 11 2026. No macro, syntax, notation, axiom, sorry.
-/
import Derived.Test.YtbhbfpjnenekpaaGreatDoorRows
import GoSem.ClaimSeven
namespace Go.Proofs.YtbhbfpjnenekpaaGreatDoor
namespace Rows

/-- THE TIED CARD OF 'castingslaw23.StencilMatchesReference'. -/
def stencilMatchesReferenceCard : Claim7 := { stood := { row := stencilMatchesReferenceRow, standIns := [], harness := (true, "fd52a82262d69d45902dc0017a731524f6b19871380641de181f4e4c4b66a577"), looks := true }, kinds := [], alts := [], laidByText := true, laidKinds := [.data, .data, .data, .data, .sentinel, .sentinel, .pinned], laidTests := true, laidLooks := .later }
def StencilMatchesReferenceCardSaid : Prop := Claim7.holds Tryz.pinned (.plain (OpenSpec.ofChange stencilMatchesReferenceSpec)) stencilMatchesReferenceCard

/-- THE TIED CARD OF 'castingslaw23.StencilSigs'. -/
def stencilSigsCard : Claim7 := { stood := { row := stencilSigsRow, standIns := [], harness := (true, "fd52a82262d69d45902dc0017a731524f6b19871380641de181f4e4c4b66a577"), looks := true }, kinds := [], alts := [], laidByText := true, laidKinds := [.data, .data, .data, .data, .sentinel, .sentinel, .pinned], laidTests := true, laidLooks := .later }
def StencilSigsCardSaid : Prop := Claim7.holds Tryz.pinned (.plain (OpenSpec.ofChange stencilSigsSpec)) stencilSigsCard

/-- THE TIED CARD OF 'castingslaw23.StencilTypes'. -/
def stencilTypesCard : Claim7 := { stood := { row := stencilTypesRow, standIns := [], harness := (true, "fd52a82262d69d45902dc0017a731524f6b19871380641de181f4e4c4b66a577"), looks := true }, kinds := [], alts := [], laidByText := true, laidKinds := [.data, .data, .data, .data, .sentinel, .sentinel, .pinned], laidTests := true, laidLooks := .later }
def StencilTypesCardSaid : Prop := Claim7.holds Tryz.pinned (.plain (OpenSpec.ofChange stencilTypesSpec)) stencilTypesCard

/-- THE TIED CARD OF 'castingslaw26.RunMore'. -/
def runMoreCard : Claim7 := { stood := { row := runMoreRow, standIns := [], harness := (true, "fd52a82262d69d45902dc0017a731524f6b19871380641de181f4e4c4b66a577"), looks := true }, kinds := [], alts := [], laidByText := true, laidKinds := [.data, .data, .data, .data, .sentinel, .sentinel, .data, .pinned], laidTests := true, laidLooks := .later }
def RunMoreCardSaid : Prop := Claim7.holds Tryz.pinned (.plain (OpenSpec.ofChange runMoreSpec)) runMoreCard

/-- THE SECOND FORM's CARD OF 'castingslaw23.StencilMatchesReference'. -/
def stencilMatchesReferenceUptoCard : Claim7 := { stood := { row := stencilMatchesReferenceUptoRow, standIns := [], harness := (true, "fd52a82262d69d45902dc0017a731524f6b19871380641de181f4e4c4b66a577"), looks := true }, kinds := [], alts := [], laidByText := true, laidKinds := [.data, .data, .data, .data, .sentinel, .sentinel, .pinned], laidTests := true, laidLooks := .later }
def StencilMatchesReferenceUptoCardSaid : Prop := Claim7.holds Tryz.pinned (.plain (OpenSpec.upto stencilMatchesReferenceSpec)) stencilMatchesReferenceUptoCard

/-- THE SECOND FORM's CARD OF 'castingslaw23.StencilSigs'. -/
def stencilSigsUptoCard : Claim7 := { stood := { row := stencilSigsUptoRow, standIns := [], harness := (true, "fd52a82262d69d45902dc0017a731524f6b19871380641de181f4e4c4b66a577"), looks := true }, kinds := [], alts := [], laidByText := true, laidKinds := [.data, .data, .data, .data, .sentinel, .sentinel, .pinned], laidTests := true, laidLooks := .later }
def StencilSigsUptoCardSaid : Prop := Claim7.holds Tryz.pinned (.plain (OpenSpec.upto stencilSigsSpec)) stencilSigsUptoCard

/-- THE SECOND FORM's CARD OF 'castingslaw23.StencilTypes'. -/
def stencilTypesUptoCard : Claim7 := { stood := { row := stencilTypesUptoRow, standIns := [], harness := (true, "fd52a82262d69d45902dc0017a731524f6b19871380641de181f4e4c4b66a577"), looks := true }, kinds := [], alts := [], laidByText := true, laidKinds := [.data, .data, .data, .data, .sentinel, .sentinel, .pinned], laidTests := true, laidLooks := .later }
def StencilTypesUptoCardSaid : Prop := Claim7.holds Tryz.pinned (.plain (OpenSpec.upto stencilTypesSpec)) stencilTypesUptoCard

/-- THE SECOND FORM's CARD OF 'castingslaw26.RunMore'. -/
def runMoreUptoCard : Claim7 := { stood := { row := runMoreUptoRow, standIns := [], harness := (true, "fd52a82262d69d45902dc0017a731524f6b19871380641de181f4e4c4b66a577"), looks := true }, kinds := [], alts := [], laidByText := true, laidKinds := [.data, .data, .data, .data, .sentinel, .sentinel, .data, .pinned], laidTests := true, laidLooks := .later }
def RunMoreUptoCardSaid : Prop := Claim7.holds Tryz.pinned (.plain (OpenSpec.upto runMoreSpec)) runMoreUptoCard
end Rows
end Go.Proofs.YtbhbfpjnenekpaaGreatDoor
