/-
  DERIVED. GIVEN WITH THE SEED: THE CARDS: each row of YtgjfipagmicdnaaGreatDoorRows.lean that lists a variable, with what it lists TIED to the program's text (the seventh form; the later family's looks); each row that meets fmt, with fmt's text TOLD by the authors' own Lean function (tested against real Go, not proved from fmt's source: count such statements apart). THE CARD IS WHAT COUNTS. Prove the row's statement (the work); the ties are given (YtgjfipagmicdnaaGreatDoorTie.lean); close each card by the builder's one call (the guide's Derived/Test/ToyasCard.lean, 'card_holds'). Laid BY PROGRAM, IN A SANDBOX (cutbox-door.mjs). By AI agents, Wed Nov 11 2026. No macro, syntax, notation, axiom, sorry.
-/
import Derived.Test.YtgjfipagmicdnaaGreatDoorRows
import GoSem.ClaimSeven
namespace Go.Proofs.YtgjfipagmicdnaaGreatDoor
namespace Rows

/-- THE TIED CARD OF 'castingslaw15.DeclareMatchesReference'. -/
def declareMatchesReferenceCard : Claim7 := { stood := { row := declareMatchesReferenceRow, standIns := [], harness := (true, "b0f8e2415bef163697b2759f9318434c753b2d386eac631484c292eb3db186ae"), looks := true }, kinds := [], alts := [], laidByText := true, laidKinds := [.data, .data, .data, .handle], laidTests := true, laidLooks := .later }
def DeclareMatchesReferenceCardSaid : Prop := Claim7.holds Tryz.pinned (.plain (OpenSpec.ofChange declareMatchesReferenceSpec)) declareMatchesReferenceCard

/-- THE TIED CARD OF 'castingslaw15.DeclareSigs'. -/
def declareSigsCard : Claim7 := { stood := { row := declareSigsRow, standIns := [], harness := (true, "b0f8e2415bef163697b2759f9318434c753b2d386eac631484c292eb3db186ae"), looks := true }, kinds := [], alts := [], laidByText := true, laidKinds := [.data, .data, .data, .handle], laidTests := true, laidLooks := .later }
def DeclareSigsCardSaid : Prop := Claim7.holds Tryz.pinned (.plain (OpenSpec.ofChange declareSigsSpec)) declareSigsCard

/-- THE TIED CARD OF 'castingslaw15.DeclareEnvs'. -/
def declareEnvsCard : Claim7 := { stood := { row := declareEnvsRow, standIns := [], harness := (true, "b0f8e2415bef163697b2759f9318434c753b2d386eac631484c292eb3db186ae"), looks := true }, kinds := [], alts := [], laidByText := true, laidKinds := [.data, .data, .data, .handle], laidTests := true, laidLooks := .later }
def DeclareEnvsCardSaid : Prop := Claim7.holds Tryz.pinned (.plain (OpenSpec.ofChange declareEnvsSpec)) declareEnvsCard

/-- THE TIED CARD OF 'castingslaw15.DeclareOrder'. -/
def declareOrderCard : Claim7 := { stood := { row := declareOrderRow, standIns := [], harness := (true, "b0f8e2415bef163697b2759f9318434c753b2d386eac631484c292eb3db186ae"), looks := true }, kinds := [], alts := [], laidByText := true, laidKinds := [.data, .data, .data, .handle], laidTests := true, laidLooks := .later }
def DeclareOrderCardSaid : Prop := Claim7.holds Tryz.pinned (.plain (OpenSpec.ofChange declareOrderSpec)) declareOrderCard

/-- THE TIED CARD OF 'castingslaw15.DeclareFormals'. -/
def declareFormalsCard : Claim7 := { stood := { row := declareFormalsRow, standIns := [], harness := (true, "b0f8e2415bef163697b2759f9318434c753b2d386eac631484c292eb3db186ae"), looks := true }, kinds := [], alts := [], laidByText := true, laidKinds := [.data, .data, .data, .handle], laidTests := true, laidLooks := .later }
def DeclareFormalsCardSaid : Prop := Claim7.holds Tryz.pinned (.plain (OpenSpec.ofChange declareFormalsSpec)) declareFormalsCard

/-- THE SECOND FORM's CARD OF 'castingslaw15.DeclareMatchesReference'. -/
def declareMatchesReferenceUptoCard : Claim7 := { stood := { row := declareMatchesReferenceUptoRow, standIns := [], harness := (true, "b0f8e2415bef163697b2759f9318434c753b2d386eac631484c292eb3db186ae"), looks := true }, kinds := [], alts := [], laidByText := true, laidKinds := [.data, .data, .data, .handle], laidTests := true, laidLooks := .later }
def DeclareMatchesReferenceUptoCardSaid : Prop := Claim7.holds Tryz.pinned (.plain (OpenSpec.upto declareMatchesReferenceSpec)) declareMatchesReferenceUptoCard

/-- THE SECOND FORM's CARD OF 'castingslaw15.DeclareSigs'. -/
def declareSigsUptoCard : Claim7 := { stood := { row := declareSigsUptoRow, standIns := [], harness := (true, "b0f8e2415bef163697b2759f9318434c753b2d386eac631484c292eb3db186ae"), looks := true }, kinds := [], alts := [], laidByText := true, laidKinds := [.data, .data, .data, .handle], laidTests := true, laidLooks := .later }
def DeclareSigsUptoCardSaid : Prop := Claim7.holds Tryz.pinned (.plain (OpenSpec.upto declareSigsSpec)) declareSigsUptoCard

/-- THE SECOND FORM's CARD OF 'castingslaw15.DeclareEnvs'. -/
def declareEnvsUptoCard : Claim7 := { stood := { row := declareEnvsUptoRow, standIns := [], harness := (true, "b0f8e2415bef163697b2759f9318434c753b2d386eac631484c292eb3db186ae"), looks := true }, kinds := [], alts := [], laidByText := true, laidKinds := [.data, .data, .data, .handle], laidTests := true, laidLooks := .later }
def DeclareEnvsUptoCardSaid : Prop := Claim7.holds Tryz.pinned (.plain (OpenSpec.upto declareEnvsSpec)) declareEnvsUptoCard

/-- THE SECOND FORM's CARD OF 'castingslaw15.DeclareOrder'. -/
def declareOrderUptoCard : Claim7 := { stood := { row := declareOrderUptoRow, standIns := [], harness := (true, "b0f8e2415bef163697b2759f9318434c753b2d386eac631484c292eb3db186ae"), looks := true }, kinds := [], alts := [], laidByText := true, laidKinds := [.data, .data, .data, .handle], laidTests := true, laidLooks := .later }
def DeclareOrderUptoCardSaid : Prop := Claim7.holds Tryz.pinned (.plain (OpenSpec.upto declareOrderSpec)) declareOrderUptoCard

/-- THE SECOND FORM's CARD OF 'castingslaw15.DeclareFormals'. -/
def declareFormalsUptoCard : Claim7 := { stood := { row := declareFormalsUptoRow, standIns := [], harness := (true, "b0f8e2415bef163697b2759f9318434c753b2d386eac631484c292eb3db186ae"), looks := true }, kinds := [], alts := [], laidByText := true, laidKinds := [.data, .data, .data, .handle], laidTests := true, laidLooks := .later }
def DeclareFormalsUptoCardSaid : Prop := Claim7.holds Tryz.pinned (.plain (OpenSpec.upto declareFormalsSpec)) declareFormalsUptoCard
end Rows
end Go.Proofs.YtgjfipagmicdnaaGreatDoor
