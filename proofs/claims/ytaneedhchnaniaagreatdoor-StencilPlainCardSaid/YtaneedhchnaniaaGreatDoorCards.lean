/-
  DERIVED. GIVEN WITH THE SEED: THE CARDS: each row of YtaneedhchnaniaaGreatDoorRows.lean that lists a variable, with what it lists TIED to the program's text (the seventh form; the later family's looks); each row that meets fmt, with fmt's text TOLD by the authors' own Lean function (tested against real Go, not proved from fmt's source: count such statements apart). THE CARD IS WHAT COUNTS. Prove the row's statement (the work); the ties are given (YtaneedhchnaniaaGreatDoorTie.lean); close each card by the builder's one call (the guide's Derived/Test/ToyasCard.lean, 'card_holds'). Laid BY PROGRAM, IN A SANDBOX (cutbox-door.mjs). By AI agents, Wed Nov 11 2026. No macro, syntax, notation, axiom, sorry.
-/
import Derived.Test.YtaneedhchnaniaaGreatDoorRows
import GoSem.ClaimSeven
namespace Go.Proofs.YtaneedhchnaniaaGreatDoor
namespace Rows

/-- THE TIED CARD OF 'castingslaw21.InstanceOrders'. -/
def instanceOrdersCard : Claim7 := { stood := { row := instanceOrdersRow, standIns := [], harness := (true, "be367d02c046b94b2cf6d35702f3be1dccccb1f0284e8841e6240efdd45d8e4a"), looks := true }, kinds := [], alts := [], laidByText := true, laidKinds := [.data, .data, .data], laidTests := true, laidLooks := .later }
def InstanceOrdersCardSaid : Prop := Claim7.holds Tryz.pinned (.plain (OpenSpec.ofChange instanceOrdersSpec)) instanceOrdersCard

/-- THE TIED CARD OF 'castingslaw23.StencilPlain'. -/
def stencilPlainCard : Claim7 := { stood := { row := stencilPlainRow, standIns := [], harness := (true, "be367d02c046b94b2cf6d35702f3be1dccccb1f0284e8841e6240efdd45d8e4a"), looks := true }, kinds := [], alts := [], laidByText := true, laidKinds := [.data, .data, .data, .data, .sentinel, .sentinel, .pinned], laidTests := true, laidLooks := .later }
def StencilPlainCardSaid : Prop := Claim7.holds Tryz.pinned (.plain (OpenSpec.ofChange stencilPlainSpec)) stencilPlainCard

/-- THE SECOND FORM's CARD OF 'castingslaw21.InstanceOrders'. -/
def instanceOrdersUptoCard : Claim7 := { stood := { row := instanceOrdersUptoRow, standIns := [], harness := (true, "be367d02c046b94b2cf6d35702f3be1dccccb1f0284e8841e6240efdd45d8e4a"), looks := true }, kinds := [], alts := [], laidByText := true, laidKinds := [.data, .data, .data], laidTests := true, laidLooks := .later }
def InstanceOrdersUptoCardSaid : Prop := Claim7.holds Tryz.pinned (.plain (OpenSpec.upto instanceOrdersSpec)) instanceOrdersUptoCard

/-- THE SECOND FORM's CARD OF 'castingslaw23.StencilPlain'. -/
def stencilPlainUptoCard : Claim7 := { stood := { row := stencilPlainUptoRow, standIns := [], harness := (true, "be367d02c046b94b2cf6d35702f3be1dccccb1f0284e8841e6240efdd45d8e4a"), looks := true }, kinds := [], alts := [], laidByText := true, laidKinds := [.data, .data, .data, .data, .sentinel, .sentinel, .pinned], laidTests := true, laidLooks := .later }
def StencilPlainUptoCardSaid : Prop := Claim7.holds Tryz.pinned (.plain (OpenSpec.upto stencilPlainSpec)) stencilPlainUptoCard
end Rows
end Go.Proofs.YtaneedhchnaniaaGreatDoor
